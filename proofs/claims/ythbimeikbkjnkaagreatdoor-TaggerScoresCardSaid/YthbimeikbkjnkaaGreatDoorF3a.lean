/- The reference's rational numbers: index, short, Parts, Valid. -/
import Derived.Test.YthbimeikbkjnkaaGreatDoorF2h
import Derived.Test.YthbimeikbkjnkaaGreatDoorPlPad
import Derived.Test.YthbimeikbkjnkaaGreatDoorQFmt
set_option linter.all false
namespace Go.Proofs
open Go.Ab Go.Pl
theorem ixB_some {s:List UInt8}{c:UInt8}{i:Nat}(hi:i<s.length)(h:s.getD i 0=c)(hb:∀ j,j<i→s.getD j 0≠c):s.findIdx? (· ==c)=some i:=by
 rw [List.findIdx?_eq_some_iff_getElem];have e:∀ j (hj:j<s.length),s[j]=s.getD j 0:=fun j hj=>by simp [List.getD_eq_getElem?_getD,hj]
 refine⟨hi,by rw [e i hi,h];simp,fun j hj=>?_⟩;have:=hb j hj;rw [e j (by omega)];simpa using this
theorem ixB_none {s:List UInt8}{c:UInt8}(hb:∀ j,j<s.length→s.getD j 0≠c):s.findIdx? (· ==c)=none:=by rw [List.findIdx?_eq_none_iff];intro x hx;obtain⟨j,hj,rfl⟩:=List.mem_iff_getElem.1 hx;have:=hb j hj;rw [List.getD_eq_getElem?_getD,List.getElem?_eq_getElem hj]at this;simpa using this
set_option maxHeartbeats 4000000 in
theorem zt6(s:List UInt8)(c:UInt8)(hl:s.length≤1000000000):PCall Tryz.prog 83 [.str s,.int .u8 (c.toNat:Int)] (.ret (.int .i64 (ixB s c))):=by
 refine PCall.walk (rs:=[.tmp 4]) [0,1,4,5,9,16] [] mixed (zh) (zg) call83 Tryz.func83 rfl Tryz.ntmps83 rfl (by kernel_rfl) (by simp) (by simp [push_cast]) ?_;simp only [go_sem];refine AXs.loop mixed (zh) (zg) (fun i:Nat=>[(0,.str s),(1,.int .u8 (c.toNat:Int)),(5,.int .i64 i)]) (fun _=>⟨[],0⟩) (fun i=>i≤s.length∧∀ j,j<i→s.getD j 0≠c) (fun i=>s.length - i) 0 (by kernel_rfl) ⟨Nat.zero_le _,by intro j hj;omega⟩ (Sub.of0 [] rfl rfl ?_ ?_) ?_
 ·simp only [go_sem]
 ·simp only [go_sem]
 rintro i ⟨hi,hb⟩;simp only [go_sem];refine AXc.introP (fun h1=>?_) (fun h1=>?_)
 ·have hi':i<s.length:=by omega
  simp (disch:=first|assumption|(push_cast<;>omega)|omega) only [go_sem]
  (repeat refine sdC ?_);refine AXc.introP (fun h2=>?_) (fun h2=>?_)
  ·have h3:s.getD i 0=c:=UInt8.toNat_inj.1 (by omega);simp only [go_sem,ixB,ixB_some hi' h3 hb]
  ·have h3:s.getD i 0≠c:=fun e=>h2 (by rw [e]);simp (disch:=first|assumption|(push_cast<;>omega)|omega) only [go_sem];refine zo (i+1) ⟨by omega,fun j hj=>?_⟩ (by omega) (Sub.of0 [] rfl rfl ?_ ?_)
   ·by_cases hji:j=i
    ·rw [hji];exact h3
    ·exact hb j (by omega)
   ·simp only [go_sem];simp
   ·simp only [go_sem]
 ·have hie:i=s.length:=by omega
  subst hie;simp only [go_sem];refine AXa.go mixed (zh) (zg) (by kernel_rfl) ?_;simp only [go_sem,ixB,ixB_none hb]
noncomputable def zwS:List V→Option PR:=zu (fun p:List UInt8×UInt8=>[.str p.1,.int .u8 (p.2.toNat:Int)]) (fun p=>p.1.length≤1000000000) (fun p=>.ret (.int .i64 (ixB p.1 p.2)))
theorem zsp:∀ args r,zwS args=some r→PCall Tryz.prog 83 args r:=zk fun p h=>zt6 p.1 p.2 h
@[go_sem] theorem cRIndex47(s:List UInt8)(hl:s.length≤1000000000):zwS [.str s,.int .u8 47]=some (.ret (.int .i64 (ixB s 47))):=zn (pat:=fun p:List UInt8×UInt8=>[V.str p.1,.int .u8 (p.2.toNat:Int)]) (fun p q h=>by simp at h;obtain⟨h1,h2⟩:=h;have:p.2=q.2:=UInt8.toNat_inj.1 (by omega);exact Prod.ext h1 this) (s,47) hl
theorem zt4(s:List UInt8):PCall Tryz.prog 84 [.str s] (.ret (.bool (zaz s))):=by have hΓ:=zf zaG zh;refine PCall.walk (rs:=[.tmp 2]) [0,2] [] mixed (hΓ) (zg) call84 Tryz.func84 rfl Tryz.ntmps84 rfl (by kernel_rfl) (by simp) (by simp [push_cast]) ?_;simp only [go_sem];rw [Bool.eq_iff_iff,shortN_iff,Bool.and_eq_true,decide_eq_true_eq,and_comm];exact and_congr_right fun _=>by omega
noncomputable def zwM:List V→Option PR:=zu (fun a:List UInt8=>[.str a]) (fun _=>True) fun a=>.ret (.bool (zaz a))
@[go_sem] theorem cRShort_eq(a:List UInt8):zwM [.str a]=some (.ret (.bool (zaz a))):=zn (pat:=fun a:List UInt8=>[.str a]) (fun x y h=>by simpa using h) a trivial
theorem zso:∀ args r,zwM args=some r→PCall Tryz.prog 84 args r:=zk fun a _=>zt4 a
def zbC(a:List UInt8):V:=match ratP a with
 |some (s,n,d)=>.tup [.bool s,.str (dec n),.str (dec d),.bool true]
 |none=>.tup [.bool false,.str [],.str [],.bool false]
def zfy(neg:Bool)(n d:List UInt8)(fr:Bool):V:=if zbL neg n d fr=true then .tup [.bool neg,.str n,.str d,.bool true]else .tup [.bool false,.str [],.str [],.bool false]
theorem zcN(a:List UInt8):zbC a=zfy (zF a).1 (zF a).2.1 (zF a).2.2.1 (zF a).2.2.2:=by
 unfold zbC zfy ratP;split
 ·rename_i h;split at h
  ·rename_i hk;simp only [Option.some.injEq,Prod.mk.injEq]at h;obtain⟨rfl,rfl,rfl⟩:=h;rw [if_pos hk];simp only [zbL,Bool.and_eq_true]at hk;rw [zat (shortN_iff.1 hk.1.1.1.1).1,zat (shortN_iff.1 hk.1.1.1.2).1]
  ·cases h
 ·rename_i h;split at h
  ·cases h
  ·rename_i hk;rw [if_neg hk]
theorem zie {a:List UInt8}{neg:Bool}{r:List UInt8}{i:Nat}(h1:decide (a.getD 0 0=45)=neg)(h2:r=if neg=true then a.drop 1 else a)(h3:r.findIdx? (· ==47)=some i):zbC a=zfy neg (r.take i) (r.drop (i+1)) true:=by
 rw [zcN];have:zF a=(neg,r.take i,r.drop (i+1),true):=by unfold zF;simp only;rw [h1, ←h2,h3]
 rw [this]
theorem zif {a:List UInt8}{neg:Bool}{r:List UInt8}(h1:decide (a.getD 0 0=45)=neg)(h2:r=if neg=true then a.drop 1 else a)(h3:r.findIdx? (· ==47)=none):zbC a=zfy neg r [49] false:=by
 rw [zcN];have:zF a=(neg,r,[49],false):=by unfold zF;simp only;rw [h1, ←h2,h3]
 rw [this]
theorem zf3 {neg:Bool}{n d:List UInt8}{fr:Bool}(h:zbL neg n d fr=true):zfy neg n d fr=.tup [.bool neg,.str n,.str d,.bool true]:=if_pos h
theorem za0 {neg:Bool}{n d:List UInt8}{fr:Bool}(h:zbL neg n d fr=false):zfy neg n d fr=.tup [.bool false,.str [],.str [],.bool false]:=if_neg (by rw [h];decide)
theorem zdB {neg:Bool}{n d:List UInt8}{fr:Bool}(h:¬zaz n=true):zbL neg n d fr=false:=by rw [Bool.not_eq_true]at h;simp [zbL,h]
theorem zji {neg:Bool}{n d:List UInt8}{fr:Bool}(h:¬zaz d=true):zbL neg n d fr=false:=by rw [Bool.not_eq_true]at h;simp [zbL,h]
theorem zf0 {neg:Bool}{n:List UInt8}:zbL neg n [48] true=false:=by simp [zbL]
theorem zfZ {neg:Bool}{n:List UInt8}:zbL neg n [49] true=false:=by simp [zbL]
theorem zfY {neg:Bool}{d:List UInt8}(h:zaz d=true)(h1:d≠[49]):zbL neg [48] d true=false:=by
 have hv:=zat (shortN_iff.1 h).1;have:Nat.gcd (valD [48]) (valD d)≠1:=by show Nat.gcd 0 (valD d)≠1;rw [Nat.gcd_zero_left];intro e;rw [e]at hv;exact h1 hv.symm
 simp [zbL,this]
theorem zdC {neg:Bool}{n d:List UInt8}(h1:zaz n=true)(h2:zaz d=true)(h3:n≠[48])(h4:d≠[48])(h5:d≠[49]):zbL neg n d true=decide (Nat.gcd (valD n) (valD d)=1):=by simp [zbL,h1,h2,h3,h4,h5]
theorem s48:zaz [48]=true:=by decide
theorem s49:zaz [49]=true:=by decide
theorem zeg {neg:Bool}{n:List UInt8}(h1:zaz n=true):zbL neg n [49] false= !(neg&&decide (n=[48])):=by
 have:Nat.gcd (valD n) (valD [49])=1:=by show Nat.gcd (valD n) 1=1;rw [Nat.gcd_one_right]
 simp only [zbL,h1,s49,this,Bool.and_self,Bool.true_and,Bool.false_and,Bool.not_false,Bool.and_true,decide_true]
theorem zui(neg:Bool):zfy neg [48] [49] false=if neg=true then .tup [.bool false,.str [],.str [],.bool false]else .tup [.bool neg,.str [48],.str [49],.bool true]:=by unfold zfy;rw [zeg s48];cases neg<;>rfl
set_option maxHeartbeats 4000000 in
set_option maxRecDepth 100000 in
theorem zt5(a:List UInt8)(hl:a.length≤1000000000):PCall Tryz.prog 54 [.str a] (.ret (zbC a)):=by
 have hΓ:=zf zsp (zf zso (zf zpq zh));refine PCall.walk (rs:=[.tmp 2,.tmp 3,.tmp 4,.tmp 5]) [0,2,3,4,5,6,7,8,9,10,21,27,65,77] [] mixed (hΓ) (zg) call54 Tryz.func54 rfl Tryz.ntmps54 rfl (by kernel_rfl) (by simp) (by simp [push_cast]) ?_;simp (disch:=first|assumption|(push_cast<;>omega)|omega) only [go_sem];refine⟨fun h=>⟨h,by simpa using h⟩,?_⟩;have hbn:(decide (0<(a.length:Int))&&decide (((a.getD 0 0).toNat:Int)=45))=decide (a.getD 0 0=45):=by
  rw [Bool.eq_iff_iff];simp only [Bool.and_eq_true,decide_eq_true_eq];constructor
  ·rintro⟨_,h2⟩;exact UInt8.toNat_inj.1 (by have:(45:UInt8).toNat=45:=rfl;omega)
  ·intro h;refine⟨?_,by rw [h];rfl⟩;rcases a with _|⟨c,a⟩
   ·cases h
   ·simp
 rw [hbn];by_cases hneg:a.getD 0 0=45
 ·have hq:=decide_eq_true hneg;rw [hq];have hr:(a.drop 1).length≤1000000000:=by first|exact hl|(simp;omega)
  have hne:0<a.length∨true=false:=by
   rcases a with _|⟨c,a⟩
   ·first|(exact .inr rfl)|cases hneg
   ·simp
  have p1:=fun i=>zie (r:=a.drop 1) (i:=i) hq rfl;have p2:=zif (r:=a.drop 1) hq rfl;simp (disch:=first|assumption|(push_cast<;>omega)|omega) only [go_sem,List.take_length];try refine⟨⟨by simp at hne;omega,Int.le_refl _⟩,?_⟩
  generalize a.drop 1=r at*;cases hf:r.findIdx? (· ==47)with
  |some i=>
   rw [p1 i hf];have hx:ixB r 47=(i:Int):=by unfold ixB;rw [hf]
   have hi:i<r.length:=by rw [List.findIdx?_eq_some_iff_getElem]at hf;exact hf.1
   have h0:decide (0≤(i:Int))=true:=by simp
   rw [hx,h0];simp (disch:=first|assumption|(push_cast<;>omega)|omega) only [go_sem,List.take_length];refine⟨⟨by omega,by omega,Int.le_refl _⟩,⟨by omega,by omega⟩,fun h=>⟨h,fun h'=>by simp only [h,h'];rfl⟩,fun h=>⟨h,fun h'=>by simp only [h,h'];rfl⟩,?_⟩;generalize r.take i=n;generalize r.drop (i+1)=d;by_cases h1:zaz n=true
   case neg=>
    rw [za0 (zdB h1)]
    simp only [go_sem,h1]
   by_cases h2:zaz d=true
   case neg=>
    rw [za0 (zji h2)]
    simp only [go_sem,h1,h2]
   by_cases h4:d=[48]
   ·rw [h4,za0 zf0];simp only [go_sem,h1,s48]
   by_cases h5:d=[49]
   ·rw [h5,za0 zfZ];simp only [go_sem,h1,s49,h0,Bool.or_true]
   by_cases h3:n=[48]
   ·rw [h3,za0 (zfY h2 h5)];simp only [go_sem,s48,h2,h4,h5,h0,Bool.or_true]
   simp only [go_sem,h1,h2,h3,h4,h5,zfq (shortN_iff.1 h1).1 (shortN_iff.1 h2).1,zaE];refine AXc.introN (fun h6=>?_) (fun h6=>?_)
   ·rw [za0 (by rw [zdC h1 h2 h3 h4 h5];simpa using h6)];simp only [go_sem]
   ·rw [zf3 (by rw [zdC h1 h2 h3 h4 h5];simpa using h6)];simp only [go_sem]
  |none=>
   rw [p2 hf];have hx:ixB r 47= -1:=by unfold ixB;rw [hf]
   rw [hx];have z49:decide (([49]:List UInt8)=[48])=false:=by decide
   by_cases h1:zaz r=true
   case neg=>
    rw [za0 (zdB h1)]
    simp only [go_sem,h1,s49,z49]
   by_cases h2:r=[48]
   ·rw [h2,zui];simp only [go_sem,s48,s49,z49,zfq (shortN_iff.1 s48).1 (shortN_iff.1 s49).1,if_true,Bool.false_eq_true,if_false]
   ·rw [zf3 (by rw [zeg h1];simp [h2])];simp only [go_sem,h1,s49,z49,h2,zfq (shortN_iff.1 h1).1 (shortN_iff.1 s49).1]
 ·have hq:=decide_eq_false hneg;rw [hq];have hr:(a).length≤1000000000:=by first|exact hl|(simp;omega)
  have hne:0<a.length∨false=false:=by
   rcases a with _|⟨c,a⟩
   ·first|(exact .inr rfl)|cases hneg
   ·simp
  have p1:=fun i=>zie (r:=a) (i:=i) hq rfl;have p2:=zif (r:=a) hq rfl;simp (disch:=first|assumption|(push_cast<;>omega)|omega) only [go_sem,List.take_length];try refine⟨⟨by simp at hne;omega,Int.le_refl _⟩,?_⟩
  generalize a=r at*;cases hf:r.findIdx? (· ==47)with
  |some i=>
   rw [p1 i hf];have hx:ixB r 47=(i:Int):=by unfold ixB;rw [hf]
   have hi:i<r.length:=by rw [List.findIdx?_eq_some_iff_getElem]at hf;exact hf.1
   have h0:decide (0≤(i:Int))=true:=by simp
   rw [hx,h0];simp (disch:=first|assumption|(push_cast<;>omega)|omega) only [go_sem,List.take_length];refine⟨⟨by omega,by omega,Int.le_refl _⟩,⟨by omega,by omega⟩,fun h=>⟨h,fun h'=>by simp only [h,h'];rfl⟩,fun h=>⟨h,fun h'=>by simp only [h,h'];rfl⟩,?_⟩;generalize r.take i=n;generalize r.drop (i+1)=d;by_cases h1:zaz n=true
   case neg=>
    rw [za0 (zdB h1)]
    simp only [go_sem,h1]
   by_cases h2:zaz d=true
   case neg=>
    rw [za0 (zji h2)]
    simp only [go_sem,h1,h2]
   by_cases h4:d=[48]
   ·rw [h4,za0 zf0];simp only [go_sem,h1,s48]
   by_cases h5:d=[49]
   ·rw [h5,za0 zfZ];simp only [go_sem,h1,s49,h0,Bool.or_true]
   by_cases h3:n=[48]
   ·rw [h3,za0 (zfY h2 h5)];simp only [go_sem,s48,h2,h4,h5,h0,Bool.or_true]
   simp only [go_sem,h1,h2,h3,h4,h5,zfq (shortN_iff.1 h1).1 (shortN_iff.1 h2).1,zaE];refine AXc.introN (fun h6=>?_) (fun h6=>?_)
   ·rw [za0 (by rw [zdC h1 h2 h3 h4 h5];simpa using h6)];simp only [go_sem]
   ·rw [zf3 (by rw [zdC h1 h2 h3 h4 h5];simpa using h6)];simp only [go_sem]
  |none=>
   rw [p2 hf];have hx:ixB r 47= -1:=by unfold ixB;rw [hf]
   rw [hx];have z49:decide (([49]:List UInt8)=[48])=false:=by decide
   by_cases h1:zaz r=true
   case neg=>
    rw [za0 (zdB h1)]
    simp only [go_sem,h1,s49,z49]
   by_cases h2:r=[48]
   ·rw [h2,zui];simp only [go_sem,s48,s49,z49,zfq (shortN_iff.1 s48).1 (shortN_iff.1 s49).1,if_true,Bool.false_eq_true,if_false]
   ·rw [zf3 (by rw [zeg h1];simp [h2])];simp only [go_sem,h1,s49,z49,h2,zfq (shortN_iff.1 h1).1 (shortN_iff.1 s49).1]
end Go.Proofs

namespace Go.Proofs
open Go.Ab Go.Pl
noncomputable def zkb:List V→Option PR:=zu (fun a:List UInt8=>[.str a]) (fun a=>a.length≤1000000000) fun a=>.ret (zbC a)
theorem ziC(a:List UInt8)(h:a.length≤1000000000):zkb [.str a]=some (.ret (zbC a)):=zn (pat:=fun a:List UInt8=>[V.str a]) (fun x y h=>by simpa using h) a h
theorem zfp:∀ args r,zkb args=some r→PCall Tryz.prog 54 args r:=zk fun a h=>zt5 a h
theorem partsV_s {a:List UInt8}{s:Bool}{n d:Nat}(hr:ratP a=some (s,n,d)):zbC a=.tup [.bool s,.str (dec n),.str (dec d),.bool true]:=by unfold zbC;generalize ratP a=q at hr;subst hr;rfl
theorem partsV_n {a:List UInt8}(hr:ratP a=none):zbC a=.tup [.bool false,.str [],.str [],.bool false]:=by unfold zbC;generalize ratP a=q at hr;subst hr;rfl
@[go_sem] theorem cRParts_s {a:List UInt8}{s:Bool}{n d:Nat}(hr:ratP a=some (s,n,d))(h:a.length≤1000000000):zkb [.str a]=some (.ret (.tup [.bool s,.str (dec n),.str (dec d),.bool true])):=
 (ziC a h).trans (congrArg (fun v=>some (PR.ret v)) (partsV_s hr))
@[go_sem] theorem cRParts_n {a:List UInt8}(hr:ratP a=none)(h:a.length≤1000000000):zkb [.str a]=some (.ret (.tup [.bool false,.str [],.str [],.bool false])):=
 (ziC a h).trans (congrArg (fun v=>some (PR.ret v)) (partsV_n hr))
theorem zqC(a:List UInt8)(h:a.length≤1000000000):PCall Tryz.prog 76 [.str a] (.ret (.bool (ratP a).isSome)):=by
 refine PCall.walk (rs:=[.tmp 2]) [0,2,6] [] mixed (zf zfp zh) (zg) call76 Tryz.func76 rfl Tryz.ntmps76 rfl (by kernel_rfl) (by simp) (by simp [push_cast]) ?_;cases hr:ratP a with
 |none=>simp (disch:=first|assumption|(push_cast<;>omega)|omega) only [go_sem,hr,Option.isSome_none]
 |some q=>
  obtain⟨s,n,d⟩:=q;simp (disch:=first|assumption|(push_cast<;>omega)|omega) only [go_sem,hr,Option.isSome_some]
noncomputable def zpt:List V→Option PR:=zu (fun a:List UInt8=>[.str a]) (fun a=>a.length≤1000000000) fun a=>.ret (.bool (ratP a).isSome)
@[go_sem] theorem cR3Valid_eq(a:List UInt8)(h:a.length≤1000000000):zpt [.str a]=some (.ret (.bool (ratP a).isSome)):=zn (pat:=fun a:List UInt8=>[V.str a]) (fun x y h=>by simpa using h) a h
theorem zn0:∀ args r,zpt args=some r→PCall Tryz.prog 76 args r:=zk fun a h=>zqC a h
end Go.Proofs

namespace Go.Proofs
open Go.Ab Go.Pl
attribute [go_sem] List.getElem?_cons_zero List.getElem?_cons_succ
def numV(s:Bool)(n d:List UInt8):V:=.agg [.bool s,.str n,.str d]
def zdE(a:List UInt8):V:=match ratP a with
 |some (s,n,d)=>.tup [numV s (dec n) (dec d),.bool true]
 |none=>.tup [numV false [] [],.bool false]
def zea(neg:Bool)(n d:List UInt8)(fr:Bool):V:=if zbL neg n d fr=true then .tup [numV neg n d,.bool true]else .tup [numV false [] [],.bool false]
theorem zkY(a:List UInt8):zdE a=zea (zF a).1 (zF a).2.1 (zF a).2.2.1 (zF a).2.2.2:=by
 unfold zdE zea ratP;split
 ·rename_i h;split at h
  ·rename_i hk;simp only [Option.some.injEq,Prod.mk.injEq]at h;obtain⟨rfl,rfl,rfl⟩:=h;rw [if_pos hk];simp only [zbL,Bool.and_eq_true]at hk;rw [zat (shortN_iff.1 hk.1.1.1.1).1,zat (shortN_iff.1 hk.1.1.1.2).1]
  ·cases h
 ·rename_i h;split at h
  ·cases h
  ·rename_i hk;rw [if_neg hk]
theorem zih {a:List UInt8}{neg:Bool}{r:List UInt8}{i:Nat}(h1:decide (a.getD 0 0=45)=neg)(h2:r=if neg=true then a.drop 1 else a)(h3:r.findIdx? (· ==47)=some i):zdE a=zea neg (r.take i) (r.drop (i+1)) true:=by
 rw [zkY];have:zF a=(neg,r.take i,r.drop (i+1),true):=by unfold zF;simp only;rw [h1, ←h2,h3]
 rw [this]
theorem zii {a:List UInt8}{neg:Bool}{r:List UInt8}(h1:decide (a.getD 0 0=45)=neg)(h2:r=if neg=true then a.drop 1 else a)(h3:r.findIdx? (· ==47)=none):zdE a=zea neg r [49] false:=by
 rw [zkY];have:zF a=(neg,r,[49],false):=by unfold zF;simp only;rw [h1, ←h2,h3]
 rw [this]
theorem zf4 {neg:Bool}{n d:List UInt8}{fr:Bool}(h:zbL neg n d fr=true):zea neg n d fr=.tup [numV neg n d,.bool true]:=if_pos h
theorem za1 {neg:Bool}{n d:List UInt8}{fr:Bool}(h:zbL neg n d fr=false):zea neg n d fr=.tup [numV false [] [],.bool false]:=if_neg (by rw [h];decide)
theorem pref45(a:List UInt8):List.isPrefixOf [45] a=decide (a.getD 0 0=45):=by
 rcases a with _|⟨c,a⟩
 ·rfl
 ·show (45==c&&true)=decide (c=45);rw [Bool.and_true,Bool.eq_iff_iff];simp only [beq_iff_eq,decide_eq_true_eq];exact eq_comm
theorem ze4(n d:List UInt8):(!zB n|| !zB d||decide (400<(n.length:Int))||decide (400<(d.length:Int)))= !(zaz n&&zaz d):=by
 rw [Bool.eq_iff_iff];simp only [zaz,Bool.or_eq_true,Bool.not_eq_true',Bool.and_eq_false_imp,decide_eq_true_eq,Bool.and_eq_true,decide_eq_false_iff_not];constructor
 ·rintro(((h|h)|h)|h) h1 h2
  ·rw [h]at h1;exact absurd h1.1 (by decide)
  ·rw [h]at h2;exact absurd h2 (by decide)
  ·omega
  ·omega
 ·intro h;by_cases h1:zB n=true
  ·by_cases h2:zB d=true
   ·by_cases h3:n.length≤400
    ·have:=h ⟨h1,h3⟩ h2;exact .inr (by omega)
    ·exact .inl (.inr (by omega))
   ·exact .inl (.inl (.inr (by simpa using h2)))
  ·exact .inl (.inl (.inl (by simpa using h1)))
theorem zkG(n:List UInt8):(!zB n||decide (400<(n.length:Int)))= !zaz n:=by
 have:=ze4 n [49];have h1:zB [49]=true:=by decide
 have h2:decide (400<(([49]:List UInt8).length:Int))=false:=by decide
 rw [h1,h2,s49,Bool.not_true,Bool.or_false,Bool.or_false,Bool.and_true]at this;exact this
set_option maxHeartbeats 8000000 in
set_option maxRecDepth 100000 in
theorem parse_ok(a:List UInt8)(hl:a.length≤1000000000):PCall Tryz.prog 116 [.str a] (.ret (zdE a)):=by
 have hΓ:=zf zn5 (zf cCut_ok (zf zcm (zf zpw zh)));refine PCall.walk (rs:=[.cell 2 150,.tmp 3]) [0,2,3,4,5,6,7,8,9,10,23,41,58,71] [] mixed (hΓ) (zg) call116 Tryz.func116 rfl Tryz.ntmps116 rfl (by kernel_rfl) (by simp) (by simp [push_cast]) ?_;by_cases hneg:a.getD 0 0=45
 ·have hq:=decide_eq_true hneg;have hr:(a.drop 1).length≤1000000000:=by first|exact hl|(simp;omega)
  have p1:=fun i=>zih (r:=a.drop 1) (i:=i) hq rfl;have p2:=zii (r:=a.drop 1) hq rfl;have hcp:zba a [45]=.tup [.str (a.drop 1),.bool true]:=by unfold zba;rw [pref45,hq];rfl
  simp (disch:=first|assumption|(push_cast<;>omega)|omega) only [go_sem,hcp];generalize a.drop 1=r at*;cases hf:r.findIdx? (· ==47)with
  |some i=>
   rw [p1 i hf];have hct:cutV r 47=.tup [.str (r.take i),.str (r.drop (i+1)),.bool true]:=by unfold cutV;rw [hf]
   generalize r.take i=n at*;generalize r.drop (i+1)=d at*;simp only [go_sem,hct];rw [ze4];by_cases h1:zaz n=true
   case neg=>
    rw [za1 (zdB h1)]
    simp only [go_sem,h1,Bool.false_and,numV]
    exact .pure (by simp [zV,zN,zQ])
   by_cases h2:zaz d=true
   case neg=>
    rw [za1 (zji h2)]
    simp only [go_sem,h1,h2,Bool.and_false,numV]
    exact .pure (by simp [zV,zN,zQ])
   by_cases h4:d=[48]
   ·rw [h4,za1 zf0];simp only [go_sem,h1,s48,Bool.and_self,numV];exact .pure (by simp [zV,zN,zQ])
   by_cases h5:d=[49]
   ·rw [h5,za1 zfZ];simp only [go_sem,h1,s49,Bool.and_self,numV];first
     |exact .pure (by simp [zV,zN,zQ])
     |exact⟨fun h=>⟨h,fun _=>by rw [h];rfl⟩,.pure (by simp [zV,zN,zQ])⟩
   by_cases h3:n=[48]
   ·rw [h3,za1 (zfY h2 h5)];have hg:decide (Nat.gcd (valD [48]) (valD d)=1)=false:=by rw [decide_eq_false_iff_not,show valD [48]=0 from rfl,Nat.gcd_zero_left];intro e;have hv:=zat (shortN_iff.1 h2).1;rw [e]at hv;exact h5 hv.symm
    simp only [go_sem,s48,h2,h4,h5,Bool.and_self,numV,zdl (shortN_iff.1 s48).1 (shortN_iff.1 h2).1,zaE,hg];exact .pure (by simp [zV,zN,zQ])
   simp only [go_sem,h1,h2,h3,h4,h5,zdl (shortN_iff.1 h1).1 (shortN_iff.1 h2).1,zaE,Bool.and_self];refine AXc.introN (fun h6=>?_) (fun h6=>?_)
   ·rw [za1 (by rw [zdC h1 h2 h3 h4 h5];simpa using h6)];simp only [go_sem,numV];exact .pure (by simp [zV,zN,zQ])
   ·rw [zf4 (by rw [zdC h1 h2 h3 h4 h5];simpa using h6)];simp only [go_sem,numV];exact .pure (by simp [zV,zN,zQ])
  |none=>
   rw [p2 hf];have hct:cutV r 47=.tup [.str r,.str [],.bool false]:=by unfold cutV;rw [hf]
   have v49:zB [49]=true:=by decide
   simp only [go_sem,hct,v49];rw [zkG];by_cases h1:zaz r=true
   case neg=>
    rw [za1 (zdB h1)]
    simp only [go_sem,h1,numV]
    exact .pure (by simp [zV,zN,zQ])
   have g1:decide (Nat.gcd (valD r) (valD [49])=1)=true:=by rw [decide_eq_true_eq,show valD [49]=1 from rfl,Nat.gcd_one_right]
   by_cases h3:r=[48]
   ·have hq2:zea true r [49] false=if true=true then .tup [numV false [] [],.bool false]else .tup [numV true r [49],.bool true]:=by
     unfold zea
     rw [zeg h1,h3]
     rfl
    rw [hq2]
    rw [h3]at g1 ⊢
    simp only [go_sem,s48,numV,zdl (shortN_iff.1 s48).1 (shortN_iff.1 s49).1,zaE,g1,if_true,Bool.false_eq_true,if_false]
    exact .pure (by simp [zV,zN,zQ])
   ·rw [zf4 (by rw [zeg h1];simp [h3])];simp only [go_sem,h1,h3,numV,zdl (shortN_iff.1 h1).1 (shortN_iff.1 s49).1,zaE,g1];exact .pure (by simp [zV,zN,zQ])
 ·have hq:=decide_eq_false hneg;have hr:(a).length≤1000000000:=by first|exact hl|(simp;omega)
  have p1:=fun i=>zih (r:=a) (i:=i) hq rfl;have p2:=zii (r:=a) hq rfl;have hcp:zba a [45]=.tup [.str (a),.bool false]:=by unfold zba;rw [pref45,hq];rfl
  simp (disch:=first|assumption|(push_cast<;>omega)|omega) only [go_sem,hcp];generalize a=r at*;cases hf:r.findIdx? (· ==47)with
  |some i=>
   rw [p1 i hf];have hct:cutV r 47=.tup [.str (r.take i),.str (r.drop (i+1)),.bool true]:=by unfold cutV;rw [hf]
   generalize r.take i=n at*;generalize r.drop (i+1)=d at*;simp only [go_sem,hct];rw [ze4];by_cases h1:zaz n=true
   case neg=>
    rw [za1 (zdB h1)]
    simp only [go_sem,h1,Bool.false_and,numV]
    exact .pure (by simp [zV,zN,zQ])
   by_cases h2:zaz d=true
   case neg=>
    rw [za1 (zji h2)]
    simp only [go_sem,h1,h2,Bool.and_false,numV]
    exact .pure (by simp [zV,zN,zQ])
   by_cases h4:d=[48]
   ·rw [h4,za1 zf0];simp only [go_sem,h1,s48,Bool.and_self,numV];exact .pure (by simp [zV,zN,zQ])
   by_cases h5:d=[49]
   ·rw [h5,za1 zfZ];simp only [go_sem,h1,s49,Bool.and_self,numV];first
     |exact .pure (by simp [zV,zN,zQ])
     |exact⟨fun h=>⟨h,fun _=>by rw [h];rfl⟩,.pure (by simp [zV,zN,zQ])⟩
   by_cases h3:n=[48]
   ·rw [h3,za1 (zfY h2 h5)];have hg:decide (Nat.gcd (valD [48]) (valD d)=1)=false:=by rw [decide_eq_false_iff_not,show valD [48]=0 from rfl,Nat.gcd_zero_left];intro e;have hv:=zat (shortN_iff.1 h2).1;rw [e]at hv;exact h5 hv.symm
    simp only [go_sem,s48,h2,h4,h5,Bool.and_self,numV,zdl (shortN_iff.1 s48).1 (shortN_iff.1 h2).1,zaE,hg];exact .pure (by simp [zV,zN,zQ])
   simp only [go_sem,h1,h2,h3,h4,h5,zdl (shortN_iff.1 h1).1 (shortN_iff.1 h2).1,zaE,Bool.and_self];refine AXc.introN (fun h6=>?_) (fun h6=>?_)
   ·rw [za1 (by rw [zdC h1 h2 h3 h4 h5];simpa using h6)];simp only [go_sem,numV];exact .pure (by simp [zV,zN,zQ])
   ·rw [zf4 (by rw [zdC h1 h2 h3 h4 h5];simpa using h6)];simp only [go_sem,numV];exact .pure (by simp [zV,zN,zQ])
  |none=>
   rw [p2 hf];have hct:cutV r 47=.tup [.str r,.str [],.bool false]:=by unfold cutV;rw [hf]
   have v49:zB [49]=true:=by decide
   simp only [go_sem,hct,v49];rw [zkG];by_cases h1:zaz r=true
   case neg=>
    rw [za1 (zdB h1)]
    simp only [go_sem,h1,numV]
    exact .pure (by simp [zV,zN,zQ])
   have g1:decide (Nat.gcd (valD r) (valD [49])=1)=true:=by rw [decide_eq_true_eq,show valD [49]=1 from rfl,Nat.gcd_one_right]
   by_cases h3:r=[48]
   ·have hq2:zea false r [49] false=if false=true then .tup [numV false [] [],.bool false]else .tup [numV false r [49],.bool true]:=by
     unfold zea
     rw [zeg h1,h3]
     rfl
    rw [hq2]
    rw [h3]at g1 ⊢
    simp only [go_sem,s48,numV,zdl (shortN_iff.1 s48).1 (shortN_iff.1 s49).1,zaE,g1,if_true,Bool.false_eq_true,if_false]
    exact .pure (by simp [zV,zN,zQ])
   ·rw [zf4 (by rw [zeg h1];simp [h3])];simp only [go_sem,h1,h3,numV,zdl (shortN_iff.1 h1).1 (shortN_iff.1 s49).1,zaE,g1];exact .pure (by simp [zV,zN,zQ])
end Go.Proofs
