/- The reference's rational numbers: index, short, Parts, Valid. -/
import Derived.Test.YthbimeikbkjnkaaGreatDoorBQFmt
set_option linter.all false
namespace Go.Proofs
open Go.Ab Go.Pl
theorem ixB_some {s:List UInt8}{c:UInt8}{i:Nat}(hi:i<s.length)(h:s.getD i 0=c)(hb:∀ j,j<i→s.getD j 0≠c):s.findIdx? (· ==c)=some i:=by
 rw [List.findIdx?_eq_some_iff_getElem];have e:∀ j (hj:j<s.length),s[j]=s.getD j 0:=fun j hj=>by simp [List.getD_eq_getElem?_getD,hj]
 refine⟨hi,by rw [e i hi,h];simp,fun j hj=>?_⟩;have:=hb j hj;rw [e j (by omega)];simpa using this
theorem ixB_none {s:List UInt8}{c:UInt8}(hb:∀ j,j<s.length→s.getD j 0≠c):s.findIdx? (· ==c)=none:=by rw [List.findIdx?_eq_none_iff];intro x hx;obtain⟨j,hj,rfl⟩:=List.mem_iff_getElem.1 hx;have:=hb j hj;rw [List.getD_eq_getElem?_getD,List.getElem?_eq_getElem hj]at this;simpa using this
set_option maxHeartbeats 4000000 in
theorem zvX(s:List UInt8)(c:UInt8)(hl:s.length≤1000000000):PCall Tryz.prog 83 [.str s,.int .u8 (c.toNat:Int)] (.ret (.int .i64 (ixB s c))):=by
 refine PCall.walk (rs:=[.tmp 4]) [0,1,4,5,9,16] [] mixed (zh) (zf) call83 Tryz.func83 rfl Tryz.ntmps83 rfl (by kernel_rfl) (by simp) (by simp [push_cast]) ?_;simp only [go_sem];refine AXs.loop mixed (zh) (zf) (fun i:Nat=>[(0,.str s),(1,.int .u8 (c.toNat:Int)),(5,.int .i64 i)]) (fun _=>⟨[],0⟩) (fun i=>i≤s.length∧∀ j,j<i→s.getD j 0≠c) (fun i=>s.length - i) 0 (by kernel_rfl) ⟨Nat.zero_le _,by intro j hj;omega⟩ (Sub.of0 [] rfl rfl ?_ ?_) ?_
 ·simp only [go_sem]
 ·simp only [go_sem]
 rintro i ⟨hi,hb⟩;simp only [go_sem];refine AXc.introP (fun h1=>?_) (fun h1=>?_)
 ·have hi':i<s.length:=by omega
  simp (disch:=first|assumption|(push_cast<;>omega)|omega) only [go_sem]
  (repeat refine sdC ?_);refine AXc.introP (fun h2=>?_) (fun h2=>?_)
  ·have h3:s.getD i 0=c:=UInt8.toNat_inj.1 (by omega);simp only [go_sem,ixB,ixB_some hi' h3 hb]
  ·have h3:s.getD i 0≠c:=fun e=>h2 (by rw [e]);simp (disch:=first|assumption|(push_cast<;>omega)|omega) only [go_sem];refine zk (i+1) ⟨by omega,fun j hj=>?_⟩ (by omega) (Sub.of0 [] rfl rfl ?_ ?_)
   ·by_cases hji:j=i
    ·rw [hji];exact h3
    ·exact hb j (by omega)
   ·simp only [go_sem];simp
   ·simp only [go_sem]
 ·have hie:i=s.length:=by omega
  subst hie;simp only [go_sem];refine AXa.go mixed (zh) (zf) (by kernel_rfl) ?_;simp only [go_sem,ixB,ixB_none hb]
noncomputable def zy1:List V→Option PR:=zB (fun p:List UInt8×UInt8=>[.str p.1,.int .u8 (p.2.toNat:Int)]) (fun p=>p.1.length≤1000000000) (fun p=>.ret (.int .i64 (ixB p.1 p.2)))
theorem zt7:∀ args r,zy1 args=some r→PCall Tryz.prog 83 args r:=zn fun p h=>zvX p.1 p.2 h
@[go_sem] theorem cRIndex47(s:List UInt8)(hl:s.length≤1000000000):zy1 [.str s,.int .u8 47]=some (.ret (.int .i64 (ixB s 47))):=zo (pat:=fun p:List UInt8×UInt8=>[V.str p.1,.int .u8 (p.2.toNat:Int)]) (fun p q h=>by simp at h;obtain⟨h1,h2⟩:=h;have:p.2=q.2:=UInt8.toNat_inj.1 (by omega);exact Prod.ext h1 this) (s,47) hl
theorem zvV(s:List UInt8):PCall Tryz.prog 84 [.str s] (.ret (.bool (zaB s))):=by have hΓ:=zg zaM zh;refine PCall.walk (rs:=[.tmp 2]) [0,2] [] mixed (hΓ) (zf) call84 Tryz.func84 rfl Tryz.ntmps84 rfl (by kernel_rfl) (by simp) (by simp [push_cast]) ?_;simp only [go_sem];rw [Bool.eq_iff_iff,shortN_iff,Bool.and_eq_true,decide_eq_true_eq,and_comm];exact and_congr_right fun _=>by omega
noncomputable def zyW:List V→Option PR:=zB (fun a:List UInt8=>[.str a]) (fun _=>True) fun a=>.ret (.bool (zaB a))
@[go_sem] theorem cRShort_eq(a:List UInt8):zyW [.str a]=some (.ret (.bool (zaB a))):=zo (pat:=fun a:List UInt8=>[.str a]) (fun x y h=>by simpa using h) a trivial
theorem zt6:∀ args r,zyW args=some r→PCall Tryz.prog 84 args r:=zn fun a _=>zvV a
def zbN(a:List UInt8):V:=match ratP a with
 |some (s,n,d)=>.tup [.bool s,.str (dec n),.str (dec d),.bool true]
 |none=>.tup [.bool false,.str [],.str [],.bool false]
def zfW(neg:Bool)(n d:List UInt8)(fr:Bool):V:=if zbP neg n d fr=true then .tup [.bool neg,.str n,.str d,.bool true]else .tup [.bool false,.str [],.str [],.bool false]
theorem zc1(a:List UInt8):zbN a=zfW (zC a).1 (zC a).2.1 (zC a).2.2.1 (zC a).2.2.2:=by
 unfold zbN zfW ratP;split
 ·rename_i h;split at h
  ·rename_i hk;simp only [Option.some.injEq,Prod.mk.injEq]at h;obtain⟨rfl,rfl,rfl⟩:=h;rw [if_pos hk];simp only [zbP,Bool.and_eq_true]at hk;rw [zak (shortN_iff.1 hk.1.1.1.1).1,zak (shortN_iff.1 hk.1.1.1.2).1]
  ·cases h
 ·rename_i h;split at h
  ·cases h
  ·rename_i hk;rw [if_neg hk]
theorem ziN {a:List UInt8}{neg:Bool}{r:List UInt8}{i:Nat}(h1:decide (a.getD 0 0=45)=neg)(h2:r=if neg=true then a.drop 1 else a)(h3:r.findIdx? (· ==47)=some i):zbN a=zfW neg (r.take i) (r.drop (i+1)) true:=by
 rw [zc1];have:zC a=(neg,r.take i,r.drop (i+1),true):=by unfold zC;simp only;rw [h1, ←h2,h3]
 rw [this]
theorem ziO {a:List UInt8}{neg:Bool}{r:List UInt8}(h1:decide (a.getD 0 0=45)=neg)(h2:r=if neg=true then a.drop 1 else a)(h3:r.findIdx? (· ==47)=none):zbN a=zfW neg r [49] false:=by
 rw [zc1];have:zC a=(neg,r,[49],false):=by unfold zC;simp only;rw [h1, ←h2,h3]
 rw [this]
theorem zgt {neg:Bool}{n d:List UInt8}{fr:Bool}(h:zbP neg n d fr=true):zfW neg n d fr=.tup [.bool neg,.str n,.str d,.bool true]:=if_pos h
theorem zbb {neg:Bool}{n d:List UInt8}{fr:Bool}(h:zbP neg n d fr=false):zfW neg n d fr=.tup [.bool false,.str [],.str [],.bool false]:=if_neg (by rw [h];decide)
theorem zdO {neg:Bool}{n d:List UInt8}{fr:Bool}(h:¬zaB n=true):zbP neg n d fr=false:=by rw [Bool.not_eq_true]at h;simp [zbP,h]
theorem zj1 {neg:Bool}{n d:List UInt8}{fr:Bool}(h:¬zaB d=true):zbP neg n d fr=false:=by rw [Bool.not_eq_true]at h;simp [zbP,h]
theorem zgq {neg:Bool}{n:List UInt8}:zbP neg n [48] true=false:=by simp [zbP]
theorem zgp {neg:Bool}{n:List UInt8}:zbP neg n [49] true=false:=by simp [zbP]
theorem zgo {neg:Bool}{d:List UInt8}(h:zaB d=true)(h1:d≠[49]):zbP neg [48] d true=false:=by
 have hv:=zak (shortN_iff.1 h).1;have:Nat.gcd (valD [48]) (valD d)≠1:=by show Nat.gcd 0 (valD d)≠1;rw [Nat.gcd_zero_left];intro e;rw [e]at hv;exact h1 hv.symm
 simp [zbP,this]
theorem zdP {neg:Bool}{n d:List UInt8}(h1:zaB n=true)(h2:zaB d=true)(h3:n≠[48])(h4:d≠[48])(h5:d≠[49]):zbP neg n d true=decide (Nat.gcd (valD n) (valD d)=1):=by simp [zbP,h1,h2,h3,h4,h5]
theorem s48:zaB [48]=true:=by decide
theorem s49:zaB [49]=true:=by decide
theorem zeu {neg:Bool}{n:List UInt8}(h1:zaB n=true):zbP neg n [49] false= !(neg&&decide (n=[48])):=by
 have:Nat.gcd (valD n) (valD [49])=1:=by show Nat.gcd (valD n) 1=1;rw [Nat.gcd_one_right]
 simp only [zbP,h1,s49,this,Bool.and_self,Bool.true_and,Bool.false_and,Bool.not_false,Bool.and_true,decide_true]
theorem zv8(neg:Bool):zfW neg [48] [49] false=if neg=true then .tup [.bool false,.str [],.str [],.bool false]else .tup [.bool neg,.str [48],.str [49],.bool true]:=by unfold zfW;rw [zeu s48];cases neg<;>rfl
set_option maxHeartbeats 4000000 in
set_option maxRecDepth 100000 in
theorem zvW(a:List UInt8)(hl:a.length≤1000000000):PCall Tryz.prog 54 [.str a] (.ret (zbN a)):=by
 have hΓ:=zg zt7 (zg zt6 (zg zqV zh));refine PCall.walk (rs:=[.tmp 2,.tmp 3,.tmp 4,.tmp 5]) [0,2,3,4,5,6,7,8,9,10,21,27,65,77] [] mixed (hΓ) (zf) call54 Tryz.func54 rfl Tryz.ntmps54 rfl (by kernel_rfl) (by simp) (by simp [push_cast]) ?_;simp (disch:=first|assumption|(push_cast<;>omega)|omega) only [go_sem];refine⟨fun h=>⟨h,by simpa using h⟩,?_⟩;have hbn:(decide (0<(a.length:Int))&&decide (((a.getD 0 0).toNat:Int)=45))=decide (a.getD 0 0=45):=by
  rw [Bool.eq_iff_iff];simp only [Bool.and_eq_true,decide_eq_true_eq];constructor
  ·rintro⟨_,h2⟩;exact UInt8.toNat_inj.1 (by have:(45:UInt8).toNat=45:=rfl;omega)
  ·intro h;refine⟨?_,by rw [h];rfl⟩;rcases a with _|⟨c,a⟩
   ·cases h
   ·simp
 rw [hbn];by_cases hneg:a.getD 0 0=45
 ·have hq:=decide_eq_true hneg;rw [hq];have hr:(a.drop 1).length≤1000000000:=by first|exact hl|(simp;omega)
  have hne:0<a.length∨true=false:=by
   rcases a with _|⟨c,a⟩
   ·first|(exact .inr rfl)|cases hneg
   ·simp
  have p1:=fun i=>ziN (r:=a.drop 1) (i:=i) hq rfl;have p2:=ziO (r:=a.drop 1) hq rfl;simp (disch:=first|assumption|(push_cast<;>omega)|omega) only [go_sem,List.take_length];try refine⟨⟨by simp at hne;omega,Int.le_refl _⟩,?_⟩
  generalize a.drop 1=r at*;cases hf:r.findIdx? (· ==47)with
  |some i=>
   rw [p1 i hf];have hx:ixB r 47=(i:Int):=by unfold ixB;rw [hf]
   have hi:i<r.length:=by rw [List.findIdx?_eq_some_iff_getElem]at hf;exact hf.1
   have h0:decide (0≤(i:Int))=true:=by simp
   rw [hx,h0];simp (disch:=first|assumption|(push_cast<;>omega)|omega) only [go_sem,List.take_length];refine⟨⟨by omega,by omega,Int.le_refl _⟩,⟨by omega,by omega⟩,fun h=>⟨h,fun h'=>by simp only [h,h'];rfl⟩,fun h=>⟨h,fun h'=>by simp only [h,h'];rfl⟩,?_⟩;generalize r.take i=n;generalize r.drop (i+1)=d;by_cases h1:zaB n=true
   case neg=>
    rw [zbb (zdO h1)]
    simp only [go_sem,h1]
   by_cases h2:zaB d=true
   case neg=>
    rw [zbb (zj1 h2)]
    simp only [go_sem,h1,h2]
   by_cases h4:d=[48]
   ·rw [h4,zbb zgq];simp only [go_sem,h1,s48]
   by_cases h5:d=[49]
   ·rw [h5,zbb zgp];simp only [go_sem,h1,s49,h0,Bool.or_true]
   by_cases h3:n=[48]
   ·rw [h3,zbb (zgo h2 h5)];simp only [go_sem,s48,h2,h4,h5,h0,Bool.or_true]
   simp only [go_sem,h1,h2,h3,h4,h5,zfP (shortN_iff.1 h1).1 (shortN_iff.1 h2).1,zaK];refine AXc.introN (fun h6=>?_) (fun h6=>?_)
   ·rw [zbb (by rw [zdP h1 h2 h3 h4 h5];simpa using h6)];simp only [go_sem]
   ·rw [zgt (by rw [zdP h1 h2 h3 h4 h5];simpa using h6)];simp only [go_sem]
  |none=>
   rw [p2 hf];have hx:ixB r 47= -1:=by unfold ixB;rw [hf]
   rw [hx];have z49:decide (([49]:List UInt8)=[48])=false:=by decide
   by_cases h1:zaB r=true
   case neg=>
    rw [zbb (zdO h1)]
    simp only [go_sem,h1,s49,z49]
   by_cases h2:r=[48]
   ·rw [h2,zv8];simp only [go_sem,s48,s49,z49,zfP (shortN_iff.1 s48).1 (shortN_iff.1 s49).1,if_true,Bool.false_eq_true,if_false]
   ·rw [zgt (by rw [zeu h1];simp [h2])];simp only [go_sem,h1,s49,z49,h2,zfP (shortN_iff.1 h1).1 (shortN_iff.1 s49).1]
 ·have hq:=decide_eq_false hneg;rw [hq];have hr:(a).length≤1000000000:=by first|exact hl|(simp;omega)
  have hne:0<a.length∨false=false:=by
   rcases a with _|⟨c,a⟩
   ·first|(exact .inr rfl)|cases hneg
   ·simp
  have p1:=fun i=>ziN (r:=a) (i:=i) hq rfl;have p2:=ziO (r:=a) hq rfl;simp (disch:=first|assumption|(push_cast<;>omega)|omega) only [go_sem,List.take_length];try refine⟨⟨by simp at hne;omega,Int.le_refl _⟩,?_⟩
  generalize a=r at*;cases hf:r.findIdx? (· ==47)with
  |some i=>
   rw [p1 i hf];have hx:ixB r 47=(i:Int):=by unfold ixB;rw [hf]
   have hi:i<r.length:=by rw [List.findIdx?_eq_some_iff_getElem]at hf;exact hf.1
   have h0:decide (0≤(i:Int))=true:=by simp
   rw [hx,h0];simp (disch:=first|assumption|(push_cast<;>omega)|omega) only [go_sem,List.take_length];refine⟨⟨by omega,by omega,Int.le_refl _⟩,⟨by omega,by omega⟩,fun h=>⟨h,fun h'=>by simp only [h,h'];rfl⟩,fun h=>⟨h,fun h'=>by simp only [h,h'];rfl⟩,?_⟩;generalize r.take i=n;generalize r.drop (i+1)=d;by_cases h1:zaB n=true
   case neg=>
    rw [zbb (zdO h1)]
    simp only [go_sem,h1]
   by_cases h2:zaB d=true
   case neg=>
    rw [zbb (zj1 h2)]
    simp only [go_sem,h1,h2]
   by_cases h4:d=[48]
   ·rw [h4,zbb zgq];simp only [go_sem,h1,s48]
   by_cases h5:d=[49]
   ·rw [h5,zbb zgp];simp only [go_sem,h1,s49,h0,Bool.or_true]
   by_cases h3:n=[48]
   ·rw [h3,zbb (zgo h2 h5)];simp only [go_sem,s48,h2,h4,h5,h0,Bool.or_true]
   simp only [go_sem,h1,h2,h3,h4,h5,zfP (shortN_iff.1 h1).1 (shortN_iff.1 h2).1,zaK];refine AXc.introN (fun h6=>?_) (fun h6=>?_)
   ·rw [zbb (by rw [zdP h1 h2 h3 h4 h5];simpa using h6)];simp only [go_sem]
   ·rw [zgt (by rw [zdP h1 h2 h3 h4 h5];simpa using h6)];simp only [go_sem]
  |none=>
   rw [p2 hf];have hx:ixB r 47= -1:=by unfold ixB;rw [hf]
   rw [hx];have z49:decide (([49]:List UInt8)=[48])=false:=by decide
   by_cases h1:zaB r=true
   case neg=>
    rw [zbb (zdO h1)]
    simp only [go_sem,h1,s49,z49]
   by_cases h2:r=[48]
   ·rw [h2,zv8];simp only [go_sem,s48,s49,z49,zfP (shortN_iff.1 s48).1 (shortN_iff.1 s49).1,if_true,Bool.false_eq_true,if_false]
   ·rw [zgt (by rw [zeu h1];simp [h2])];simp only [go_sem,h1,s49,z49,h2,zfP (shortN_iff.1 h1).1 (shortN_iff.1 s49).1]
end Go.Proofs

namespace Go.Proofs
open Go.Ab Go.Pl
noncomputable def zkX:List V→Option PR:=zB (fun a:List UInt8=>[.str a]) (fun a=>a.length≤1000000000) fun a=>.ret (zbN a)
theorem zje(a:List UInt8)(h:a.length≤1000000000):zkX [.str a]=some (.ret (zbN a)):=zo (pat:=fun a:List UInt8=>[V.str a]) (fun x y h=>by simpa using h) a h
theorem zfO:∀ args r,zkX args=some r→PCall Tryz.prog 54 args r:=zn fun a h=>zvW a h
theorem partsV_s {a:List UInt8}{s:Bool}{n d:Nat}(hr:ratP a=some (s,n,d)):zbN a=.tup [.bool s,.str (dec n),.str (dec d),.bool true]:=by unfold zbN;generalize ratP a=q at hr;subst hr;rfl
theorem partsV_n {a:List UInt8}(hr:ratP a=none):zbN a=.tup [.bool false,.str [],.str [],.bool false]:=by unfold zbN;generalize ratP a=q at hr;subst hr;rfl
@[go_sem] theorem cRParts_s {a:List UInt8}{s:Bool}{n d:Nat}(hr:ratP a=some (s,n,d))(h:a.length≤1000000000):zkX [.str a]=some (.ret (.tup [.bool s,.str (dec n),.str (dec d),.bool true])):=
 (zje a h).trans (congrArg (fun v=>some (PR.ret v)) (partsV_s hr))
@[go_sem] theorem cRParts_n {a:List UInt8}(hr:ratP a=none)(h:a.length≤1000000000):zkX [.str a]=some (.ret (.tup [.bool false,.str [],.str [],.bool false])):=
 (zje a h).trans (congrArg (fun v=>some (PR.ret v)) (partsV_n hr))
theorem zsg(a:List UInt8)(h:a.length≤1000000000):PCall Tryz.prog 76 [.str a] (.ret (.bool (ratP a).isSome)):=by
 refine PCall.walk (rs:=[.tmp 2]) [0,2,6] [] mixed (zg zfO zh) (zf) call76 Tryz.func76 rfl Tryz.ntmps76 rfl (by kernel_rfl) (by simp) (by simp [push_cast]) ?_;cases hr:ratP a with
 |none=>simp (disch:=first|assumption|(push_cast<;>omega)|omega) only [go_sem,hr,Option.isSome_none]
 |some q=>
  obtain⟨s,n,d⟩:=q;simp (disch:=first|assumption|(push_cast<;>omega)|omega) only [go_sem,hr,Option.isSome_some]
noncomputable def zqY:List V→Option PR:=zB (fun a:List UInt8=>[.str a]) (fun a=>a.length≤1000000000) fun a=>.ret (.bool (ratP a).isSome)
@[go_sem] theorem cR3Valid_eq(a:List UInt8)(h:a.length≤1000000000):zqY [.str a]=some (.ret (.bool (ratP a).isSome)):=zo (pat:=fun a:List UInt8=>[V.str a]) (fun x y h=>by simpa using h) a h
theorem zpd:∀ args r,zqY args=some r→PCall Tryz.prog 76 args r:=zn fun a h=>zsg a h
end Go.Proofs

namespace Go.Proofs
open Go.Ab Go.Pl
attribute [go_sem] List.getElem?_cons_zero List.getElem?_cons_succ
def numV(s:Bool)(n d:List UInt8):V:=.agg [.bool s,.str n,.str d]
def zdS(a:List UInt8):V:=match ratP a with
 |some (s,n,d)=>.tup [numV s (dec n) (dec d),.bool true]
 |none=>.tup [numV false [] [],.bool false]
def zen(neg:Bool)(n d:List UInt8)(fr:Bool):V:=if zbP neg n d fr=true then .tup [numV neg n d,.bool true]else .tup [numV false [] [],.bool false]
theorem zlV(a:List UInt8):zdS a=zen (zC a).1 (zC a).2.1 (zC a).2.2.1 (zC a).2.2.2:=by
 unfold zdS zen ratP;split
 ·rename_i h;split at h
  ·rename_i hk;simp only [Option.some.injEq,Prod.mk.injEq]at h;obtain⟨rfl,rfl,rfl⟩:=h;rw [if_pos hk];simp only [zbP,Bool.and_eq_true]at hk;rw [zak (shortN_iff.1 hk.1.1.1.1).1,zak (shortN_iff.1 hk.1.1.1.2).1]
  ·cases h
 ·rename_i h;split at h
  ·cases h
  ·rename_i hk;rw [if_neg hk]
theorem ziP {a:List UInt8}{neg:Bool}{r:List UInt8}{i:Nat}(h1:decide (a.getD 0 0=45)=neg)(h2:r=if neg=true then a.drop 1 else a)(h3:r.findIdx? (· ==47)=some i):zdS a=zen neg (r.take i) (r.drop (i+1)) true:=by
 rw [zlV];have:zC a=(neg,r.take i,r.drop (i+1),true):=by unfold zC;simp only;rw [h1, ←h2,h3]
 rw [this]
theorem ziQ {a:List UInt8}{neg:Bool}{r:List UInt8}(h1:decide (a.getD 0 0=45)=neg)(h2:r=if neg=true then a.drop 1 else a)(h3:r.findIdx? (· ==47)=none):zdS a=zen neg r [49] false:=by
 rw [zlV];have:zC a=(neg,r,[49],false):=by unfold zC;simp only;rw [h1, ←h2,h3]
 rw [this]
theorem zgu {neg:Bool}{n d:List UInt8}{fr:Bool}(h:zbP neg n d fr=true):zen neg n d fr=.tup [numV neg n d,.bool true]:=if_pos h
theorem zbc {neg:Bool}{n d:List UInt8}{fr:Bool}(h:zbP neg n d fr=false):zen neg n d fr=.tup [numV false [] [],.bool false]:=if_neg (by rw [h];decide)
theorem pref45(a:List UInt8):List.isPrefixOf [45] a=decide (a.getD 0 0=45):=by
 rcases a with _|⟨c,a⟩
 ·rfl
 ·show (45==c&&true)=decide (c=45);rw [Bool.and_true,Bool.eq_iff_iff];simp only [beq_iff_eq,decide_eq_true_eq];exact eq_comm
theorem zfu(n d:List UInt8):(!zF n|| !zF d||decide (400<(n.length:Int))||decide (400<(d.length:Int)))= !(zaB n&&zaB d):=by
 rw [Bool.eq_iff_iff];simp only [zaB,Bool.or_eq_true,Bool.not_eq_true',Bool.and_eq_false_imp,decide_eq_true_eq,Bool.and_eq_true,decide_eq_false_iff_not];constructor
 ·rintro(((h|h)|h)|h) h1 h2
  ·rw [h]at h1;exact absurd h1.1 (by decide)
  ·rw [h]at h2;exact absurd h2 (by decide)
  ·omega
  ·omega
 ·intro h;by_cases h1:zF n=true
  ·by_cases h2:zF d=true
   ·by_cases h3:n.length≤400
    ·have:=h ⟨h1,h3⟩ h2;exact .inr (by omega)
    ·exact .inl (.inr (by omega))
   ·exact .inl (.inl (.inr (by simpa using h2)))
  ·exact .inl (.inl (.inl (by simpa using h1)))
theorem zlA(n:List UInt8):(!zF n||decide (400<(n.length:Int)))= !zaB n:=by
 have:=zfu n [49];have h1:zF [49]=true:=by decide
 have h2:decide (400<(([49]:List UInt8).length:Int))=false:=by decide
 rw [h1,h2,s49,Bool.not_true,Bool.or_false,Bool.or_false,Bool.and_true]at this;exact this
set_option maxHeartbeats 8000000 in
set_option maxRecDepth 100000 in
theorem parse_ok(a:List UInt8)(hl:a.length≤1000000000):PCall Tryz.prog 116 [.str a] (.ret (zdS a)):=by
 have hΓ:=zg zpi (zg cCut_ok (zg zcv (zg zq1 zh)));refine PCall.walk (rs:=[.cell 2 150,.tmp 3]) [0,2,3,4,5,6,7,8,9,10,23,41,58,71] [] mixed (hΓ) (zf) call116 Tryz.func116 rfl Tryz.ntmps116 rfl (by kernel_rfl) (by simp) (by simp [push_cast]) ?_;by_cases hneg:a.getD 0 0=45
 ·have hq:=decide_eq_true hneg;have hr:(a.drop 1).length≤1000000000:=by first|exact hl|(simp;omega)
  have p1:=fun i=>ziP (r:=a.drop 1) (i:=i) hq rfl;have p2:=ziQ (r:=a.drop 1) hq rfl;have hcp:zbo a [45]=.tup [.str (a.drop 1),.bool true]:=by unfold zbo;rw [pref45,hq];rfl
  simp (disch:=first|assumption|(push_cast<;>omega)|omega) only [go_sem,hcp];generalize a.drop 1=r at*;cases hf:r.findIdx? (· ==47)with
  |some i=>
   rw [p1 i hf];have hct:cutV r 47=.tup [.str (r.take i),.str (r.drop (i+1)),.bool true]:=by unfold cutV;rw [hf]
   generalize r.take i=n at*;generalize r.drop (i+1)=d at*;simp only [go_sem,hct];rw [zfu];by_cases h1:zaB n=true
   case neg=>
    rw [zbc (zdO h1)]
    simp only [go_sem,h1,Bool.false_and,numV]
    exact .pure (by simp [zW,zO,zT])
   by_cases h2:zaB d=true
   case neg=>
    rw [zbc (zj1 h2)]
    simp only [go_sem,h1,h2,Bool.and_false,numV]
    exact .pure (by simp [zW,zO,zT])
   by_cases h4:d=[48]
   ·rw [h4,zbc zgq];simp only [go_sem,h1,s48,Bool.and_self,numV];exact .pure (by simp [zW,zO,zT])
   by_cases h5:d=[49]
   ·rw [h5,zbc zgp];simp only [go_sem,h1,s49,Bool.and_self,numV];first
     |exact .pure (by simp [zW,zO,zT])
     |exact⟨fun h=>⟨h,fun _=>by rw [h];rfl⟩,.pure (by simp [zW,zO,zT])⟩
   by_cases h3:n=[48]
   ·rw [h3,zbc (zgo h2 h5)];have hg:decide (Nat.gcd (valD [48]) (valD d)=1)=false:=by rw [decide_eq_false_iff_not,show valD [48]=0 from rfl,Nat.gcd_zero_left];intro e;have hv:=zak (shortN_iff.1 h2).1;rw [e]at hv;exact h5 hv.symm
    simp only [go_sem,s48,h2,h4,h5,Bool.and_self,numV,zdC (shortN_iff.1 s48).1 (shortN_iff.1 h2).1,zaK,hg];exact .pure (by simp [zW,zO,zT])
   simp only [go_sem,h1,h2,h3,h4,h5,zdC (shortN_iff.1 h1).1 (shortN_iff.1 h2).1,zaK,Bool.and_self];refine AXc.introN (fun h6=>?_) (fun h6=>?_)
   ·rw [zbc (by rw [zdP h1 h2 h3 h4 h5];simpa using h6)];simp only [go_sem,numV];exact .pure (by simp [zW,zO,zT])
   ·rw [zgu (by rw [zdP h1 h2 h3 h4 h5];simpa using h6)];simp only [go_sem,numV];exact .pure (by simp [zW,zO,zT])
  |none=>
   rw [p2 hf];have hct:cutV r 47=.tup [.str r,.str [],.bool false]:=by unfold cutV;rw [hf]
   have v49:zF [49]=true:=by decide
   simp only [go_sem,hct,v49];rw [zlA];by_cases h1:zaB r=true
   case neg=>
    rw [zbc (zdO h1)]
    simp only [go_sem,h1,numV]
    exact .pure (by simp [zW,zO,zT])
   have g1:decide (Nat.gcd (valD r) (valD [49])=1)=true:=by rw [decide_eq_true_eq,show valD [49]=1 from rfl,Nat.gcd_one_right]
   by_cases h3:r=[48]
   ·have hq2:zen true r [49] false=if true=true then .tup [numV false [] [],.bool false]else .tup [numV true r [49],.bool true]:=by
     unfold zen
     rw [zeu h1,h3]
     rfl
    rw [hq2]
    rw [h3]at g1 ⊢
    simp only [go_sem,s48,numV,zdC (shortN_iff.1 s48).1 (shortN_iff.1 s49).1,zaK,g1,if_true,Bool.false_eq_true,if_false]
    exact .pure (by simp [zW,zO,zT])
   ·rw [zgu (by rw [zeu h1];simp [h3])];simp only [go_sem,h1,h3,numV,zdC (shortN_iff.1 h1).1 (shortN_iff.1 s49).1,zaK,g1];exact .pure (by simp [zW,zO,zT])
 ·have hq:=decide_eq_false hneg;have hr:(a).length≤1000000000:=by first|exact hl|(simp;omega)
  have p1:=fun i=>ziP (r:=a) (i:=i) hq rfl;have p2:=ziQ (r:=a) hq rfl;have hcp:zbo a [45]=.tup [.str (a),.bool false]:=by unfold zbo;rw [pref45,hq];rfl
  simp (disch:=first|assumption|(push_cast<;>omega)|omega) only [go_sem,hcp];generalize a=r at*;cases hf:r.findIdx? (· ==47)with
  |some i=>
   rw [p1 i hf];have hct:cutV r 47=.tup [.str (r.take i),.str (r.drop (i+1)),.bool true]:=by unfold cutV;rw [hf]
   generalize r.take i=n at*;generalize r.drop (i+1)=d at*;simp only [go_sem,hct];rw [zfu];by_cases h1:zaB n=true
   case neg=>
    rw [zbc (zdO h1)]
    simp only [go_sem,h1,Bool.false_and,numV]
    exact .pure (by simp [zW,zO,zT])
   by_cases h2:zaB d=true
   case neg=>
    rw [zbc (zj1 h2)]
    simp only [go_sem,h1,h2,Bool.and_false,numV]
    exact .pure (by simp [zW,zO,zT])
   by_cases h4:d=[48]
   ·rw [h4,zbc zgq];simp only [go_sem,h1,s48,Bool.and_self,numV];exact .pure (by simp [zW,zO,zT])
   by_cases h5:d=[49]
   ·rw [h5,zbc zgp];simp only [go_sem,h1,s49,Bool.and_self,numV];first
     |exact .pure (by simp [zW,zO,zT])
     |exact⟨fun h=>⟨h,fun _=>by rw [h];rfl⟩,.pure (by simp [zW,zO,zT])⟩
   by_cases h3:n=[48]
   ·rw [h3,zbc (zgo h2 h5)];have hg:decide (Nat.gcd (valD [48]) (valD d)=1)=false:=by rw [decide_eq_false_iff_not,show valD [48]=0 from rfl,Nat.gcd_zero_left];intro e;have hv:=zak (shortN_iff.1 h2).1;rw [e]at hv;exact h5 hv.symm
    simp only [go_sem,s48,h2,h4,h5,Bool.and_self,numV,zdC (shortN_iff.1 s48).1 (shortN_iff.1 h2).1,zaK,hg];exact .pure (by simp [zW,zO,zT])
   simp only [go_sem,h1,h2,h3,h4,h5,zdC (shortN_iff.1 h1).1 (shortN_iff.1 h2).1,zaK,Bool.and_self];refine AXc.introN (fun h6=>?_) (fun h6=>?_)
   ·rw [zbc (by rw [zdP h1 h2 h3 h4 h5];simpa using h6)];simp only [go_sem,numV];exact .pure (by simp [zW,zO,zT])
   ·rw [zgu (by rw [zdP h1 h2 h3 h4 h5];simpa using h6)];simp only [go_sem,numV];exact .pure (by simp [zW,zO,zT])
  |none=>
   rw [p2 hf];have hct:cutV r 47=.tup [.str r,.str [],.bool false]:=by unfold cutV;rw [hf]
   have v49:zF [49]=true:=by decide
   simp only [go_sem,hct,v49];rw [zlA];by_cases h1:zaB r=true
   case neg=>
    rw [zbc (zdO h1)]
    simp only [go_sem,h1,numV]
    exact .pure (by simp [zW,zO,zT])
   have g1:decide (Nat.gcd (valD r) (valD [49])=1)=true:=by rw [decide_eq_true_eq,show valD [49]=1 from rfl,Nat.gcd_one_right]
   by_cases h3:r=[48]
   ·have hq2:zen false r [49] false=if false=true then .tup [numV false [] [],.bool false]else .tup [numV false r [49],.bool true]:=by
     unfold zen
     rw [zeu h1,h3]
     rfl
    rw [hq2]
    rw [h3]at g1 ⊢
    simp only [go_sem,s48,numV,zdC (shortN_iff.1 s48).1 (shortN_iff.1 s49).1,zaK,g1,if_true,Bool.false_eq_true,if_false]
    exact .pure (by simp [zW,zO,zT])
   ·rw [zgu (by rw [zeu h1];simp [h3])];simp only [go_sem,h1,h3,numV,zdC (shortN_iff.1 h1).1 (shortN_iff.1 s49).1,zaK,g1];exact .pure (by simp [zW,zO,zT])
end Go.Proofs
