/- rat: Mul, Add, Div. -/
import Derived.Test.YthbimeikbkjnkaaGreatDoorF3c
set_option linter.all false
set_option maxHeartbeats 16000000
set_option maxRecDepth 100000
namespace Go.Proofs
open Tryz Go.Ab Go.Pl
theorem zo5 {a:List UInt8}(h1:(zB a).1=false)(h2:(zB a).2.2.2=false):(zB a).2.1=a:=by
 unfold zB at*;simp only at*;split at h1
 ·split at h2
  ·cases h2
  ·rename_i e1 _ e2;rw [e1]at e2;cases e2
 ·rename_i e1;simp only [e1];simp only at h1;rw [h1];rfl
theorem zmA {b:List UInt8}{q:Bool}{f:Nat}(h:ratP b=some (q,0,f)):b=[48]:=by
 unfold ratP at h;split at h
 case isFalse=>cases h
 case isTrue hk=>
  simp only [Yv,YbN]at h
  obtain⟨_,h1,_⟩:=h
  simp only [zbZ,Yc,Yh]at hk
  obtain⟨⟨⟨⟨k1,k2⟩,k3⟩,k4⟩,k5⟩:=hk
  have e1:=zak (shortN_iff.1 k1).1
  have e2:=zak (shortN_iff.1 k2).1
  rw [h1]at e1 k5
  rw [Yco]at k5
  rw [k5]at e2
  have e3:(zB b).2.1=[48]:=e1.symm
  have e4:(zB b).2.2.1=[49]:=e2.symm
  rw [e3]at k3
  rw [e4]at k4
  have n1:(zB b).1=false:=by cases h:(zB b).1<;>simp_all
  have n2:(zB b).2.2.2=false:=by cases h:(zB b).2.2.2<;>simp_all
  rw [←zo5 n1 n2];exact e3
noncomputable def cCpMul:List V→Option PR:=zu (fun p:List UInt8×List UInt8=>[.str p.1,.str p.2,.fn 112 []]) (fun p=>p.1.length≤1000000000∧p.2.length≤1000000000) (fun p=>.ret (zaJ p.1 p.2))
theorem zBh:∀ args r,cCpMul args=some r→PCall prog 111 args r:=zn fun p h=>zlD p.1 p.2 h.1 h.2 trivial
theorem zBi(a b:List UInt8)(la:a.length≤1000000000)(lb:b.length≤1000000000):cCpMul [.str a,.str b,.fn 112 []]=some (.ret (zaJ a b)):=
 zo (pat:=fun p:List UInt8×List UInt8=>[V.str p.1,.str p.2,.fn 112 []]) (fun x y h=>by simp at h;exact YT h.1 h.2) (a,b) ⟨la,lb⟩
theorem zxx(a b:List UInt8)(la:a.length≤1000000000)(lb:b.length≤1000000000):PCall prog 69 [.str a,.str b] (.ret (zaJ a b)):=by
 have hΓ:=zf zBh zh;have hc:=zBi a b la lb;obtain⟨s,e,hse⟩:=zeX a b;rw [hse]at hc ⊢;refine PCall.wD (rs:=[.tmp 4,.tmp 5]) [0,1,4,5] [] mixed (hΓ) (zg) call69 func69 rfl ntmps69 rfl ?_;simp (disch:=first|exact Zq|fail) only [go_sem,hc]
noncomputable def zqf:List V→Option PR:=zu (fun p:List UInt8×List UInt8=>[.str p.1,.str p.2]) (fun p=>p.1.length≤1000000000∧p.2.length≤1000000000) (fun p=>.ret (zaJ p.1 p.2))
theorem zvu:∀ args r,zqf args=some r→PCall prog 69 args r:=zn fun p h=>zxx p.1 p.2 h.1 h.2
theorem zvv(a b:List UInt8)(la:a.length≤1000000000)(lb:b.length≤1000000000):zqf [.str a,.str b]=some (.ret (zaJ a b)):=
 zo (pat:=fun p:List UInt8×List UInt8=>[V.str p.1,.str p.2]) (fun x y h=>by simp at h;exact YT h.1 h.2) (a,b) ⟨la,lb⟩
end Go.Proofs

namespace Go.Proofs
open Go.Ab Go.Pl
theorem decHead {n:Nat}:(dec n).getD 0 0≠45:=by
 have h:=zcq n;have hp:=zdN n;intro e;have hm:(dec n).getD 0 0∈dec n:=by rw [Ya,Yb hp];exact YZ hp
 have:=zbE (Yg.1 h _ hm);rw [e]at this;revert this;decide
theorem decNo(n:Nat):∀ x∈dec n,(x==47)=false:=fun x hx=>by
 have:=zbE (Yg.1 (zcq n) x hx);cases e:x==47 with
 |false=>rfl
 |true=>
  have:x=47:=by simpa using e
  subst this;revert this;decide
theorem ziP(neg:Bool)(n d:Nat)(hn:neg=true→n≠0):zB (ratT neg n d)=(neg,dec n,if d=1 then [49]else dec d,decide (d≠1)):=by
 have hr:∀(y:List UInt8),(if neg=true∧n≠0 then [45]else [])++y=if neg=true then 45::y else y:=fun y=>by
  cases neg with
  |true=>rw [Yf ⟨rfl,hn rfl⟩,Yf rfl];rfl
  |false=>rw [Yd (by simp),Yd (by simp)];rfl
 have ht:ratT neg n d=if neg=true then 45::(dec n++(if d=1 then []else 47::dec d))else dec n++(if d=1 then []else 47::dec d):=by unfold ratT;rw [Ybl,hr]
 have h0:(dec n++(if d=1 then []else 47::dec d)).getD 0 0=(dec n).getD 0 0:=by rw [Ya,Y4 (zdN n),Ya]
 have hneg:decide ((ratT neg n d).getD 0 0=45)=neg:=by
  rw [ht];cases neg with
  |true=>rw [Yf rfl];rfl
  |false=>rw [Yd (by simp),h0];exact Yy decHead
 have hrest:(if neg=true then(ratT neg n d).drop 1 else ratT neg n d)=dec n++(if d=1 then []else 47::dec d):=by
  rw [ht];cases neg with
  |true=>rw [Yf rfl,Yf rfl];rfl
  |false=>rw [Yd (by simp),Yd (by simp)]
 have hfn:∀ l:List UInt8,(∀ x∈l,(x==47)=false)→∀ r,(l++47::r).findIdx? (· ==47)=some l.length:=by
  intro l;induction l with
  |nil=>intro _ r;simp [YbF]
  |cons x l ih=>intro h r;rw [YbE,YbF];simp only [h x (YF ..),YO,if_false,ih (fun y hy=>h y (Yz _ hy)) r];rfl
 unfold zB;simp only [hneg,hrest];by_cases hd:d=1
 ·have:(dec n++(if d=1 then []else 47::dec d)).findIdx? (· ==47)=none:=by
   rw [Yf hd,Ybt,List.findIdx?_eq_none_iff]
   exact decNo n
  simp only [this]
  rw [Yf hd,Yf hd,Ybt]
  simp [hd]
 ·have:(dec n++(if d=1 then []else 47::dec d)).findIdx? (· ==47)=some (dec n).length:=by
   rw [Yd hd];exact hfn _ (decNo n) _
  simp only [this]
  rw [Yd hd,Yd hd,List.take_left]
  simp [hd]
theorem zf0 {n:Nat}(h:(dec n).length≤400):zaE (dec n)=true:=by rw [shortN_iff,zfW];exact⟨by simp;omega,h⟩
theorem zmB {neg:Bool}{n d:Nat}(hn:neg=true→n≠0)(hd:0<d)(hg:Nat.gcd n d=1)(ln:(dec n).length≤400)(ld:(dec d).length≤400):ratP (ratT neg n d)=some (neg,n,d):=by
 unfold ratP;rw [ziP neg n d hn];have hv:valD (if d=1 then [49]else dec d)=d:=by
  split
  ·rename_i h;rw [h];rfl
  ·exact zab d
 have h1:dec 1=[49]:=rfl;have hs:zaE (if d=1 then [49]else dec d)=true:=by
  split
  ·rw [←h1];exact zf0 (by decide)
  ·exact zf0 ld
 have hok:zbZ neg (dec n) (if d=1 then [49]else dec d) (decide (d≠1))=true:=by
  unfold zbZ;rw [zf0 ln,hs,hv,zab];have h2:(neg&&decide (dec n=[48]))=false:=by
   cases hneg:neg with
   |false=>rfl
   |true=>have:=hn hneg;simp only [Yar,YS];intro e;exact this (dec_is_zero.1 e)
  have h3:(decide (d≠1)&&(decide ((if d=1 then [49]else dec d)=[48])||decide ((if d=1 then [49]else dec d)=[49])))=false:=by
   by_cases h:d=1
   ·simp [h]
   ·rw [Yd h];have e1:¬dec d=[48]:=fun e=>by have:=dec_is_zero.1 e;omega
    have e2:¬dec d=[49]:=fun e=>h (zS (e.trans h1.symm));simp [e1,e2]
  rw [h2,h3];simp only [Yar,Bool.not_false,Yaw,Yh];exact hg
 rw [Yf hok];simp only [zab,hv]
theorem zfq {n:Nat}(h:(dec n).length≤400):ratP (dec n)=some (false,n,1):=by
 have:=zmB (neg:=false) (n:=n) (d:=1) (fun h=>by cases h) (by omega) (Ycp n) h (by decide);have e:ratT false n 1=dec n:=by unfold ratT;simp
 rwa [e]at this
theorem zrk(m:Nat)(d:Nat)(hd:0<d):((resP (mkV false m d)).2≠0→(resP (mkV false m d)).2=2)∧((resP (mkV false m d)).2=0→ratP (resP (mkV false m d)).1=some (false,m / Nat.gcd m d,d / Nat.gcd m d)∧0<d / Nat.gcd m d):=by
 unfold mkV;split
 ·rw [zgT];exact⟨fun _=>rfl,fun h=>by cases h⟩
 ·rename_i h;rw [zfo];have h':¬(400<(dec (m / Nat.gcd m d)).length∨400<(dec (d / Nat.gcd m d)).length):=by simpa [zdD] using h
  have hg:0<Nat.gcd m d:=YbM m hd;have hdg:0<d / Nat.gcd m d:=Nat.div_pos (YcQ hd (Nat.gcd_dvd_right m d)) hg;refine⟨fun h=>absurd rfl h,fun _=>⟨?_,hdg⟩⟩;exact zmB (fun h=>by cases h) hdg (Nat.coprime_div_gcd_div_gcd hg) (by omega) (by omega)
theorem sumS_pos(a b:Nat):sumS false a false b=(false,a+b):=rfl
theorem ratP_0:ratP [48]=some (false,0,1):=by have:=zfq (n:=0) (by decide);rwa [zrO]at this
end Go.Proofs

namespace Go.Proofs
open Tryz Go.Ab Go.Cnt Go.Pl
def p01(p:Str):Bool:=(ratP p).isSome&&decide (0≤zbd p [48])&&decide (zbd p [49]≤0)
def zcu(w:Nat)(r:List Str):Bool:=decide (r.length=w)&&r.all p01
def matB(m:List (List Str))(n w:Nat):Bool:=decide (m.length=n)&&m.all (zcu w)
theorem zre(p:Str):(!(ratP p).isSome||decide (zbd p [48]<0)||decide (0<zbd p [49]))= !p01 p:=by
 unfold p01;rw [YbY,YbY];congr 1
 ·congr 1;by_cases h:0≤zbd p [48]
  ·simp [h]
  ·simp [h];omega
 ·by_cases h:zbd p [49]≤0
  ·simp [h]
  ·simp [h];omega
theorem rows_ok(m:List (List Str))(n w:Nat)(hm:m.length≤1000000)(hw:∀ r∈m,r.length≤1000000)(hs:∀ r∈m,∀ s∈r,s.length≤1000000):PCall prog 107 [.fs (zI m) m.length,.int .i64 n,.int .i64 w] (.ret (.bool (matB m n w))):=by
 have hΓ:=zf znK (zf zvw zh);refine PCall.walk (rs:=[.tmp 6]) [0,1,2,6,8,10,14,15,16,17,18,24,25,26,27,28,43] [] mixed (hΓ) (zg) call107 func107 rfl ntmps107 rfl (by kernel_rfl) (by simp) (by simp [push_cast,zdy]) ?_;simp only [go_sem];refine AXc.introN (fun h0=>?_) (fun h0=>?_)
 ·simp only [go_sem];have:¬m.length=n:=by omega
  simp [matB,this]
 have hn:m.length=n:=by omega
 simp only [go_sem];refine AXs.loop mixed (hΓ) (zg) (fun i:Nat=>[(2,.int .i64 w),(15,.fs (zI m) m.length),(16,.int .i64 m.length),(17,.int .i64 i)]) (fun _=>⟨[],0⟩) (fun i=>i≤m.length∧∀ j,j<i→zcu w (nthR m j)=true) (fun i=>m.length - i) 0 (by kernel_rfl) ⟨Yk _,fun j hj=>by omega⟩ (Sub.of0 [] rfl rfl ?_ ?_) ?_
 ·simp only [go_sem]
 ·simp only [go_sem]
 rintro i ⟨h1,h2⟩;simp only [go_sem];refine AXc.introP (fun h3=>?_) (fun h3=>?_)
 ·have hi:i<m.length:=by omega
  have at1:=zkz m i hi;have lw:=hw _ (rowR.nth_mem hi);have ls:=hs _ (rowR.nth_mem hi);rw [show rowR.nth m i=nthR m i from rfl]at lw ls;simp (disch:=first|exact Zq|fail) only [go_sem,at1]
  (repeat refine sdC ?_);refine AXc.introN (fun h4=>?_) (fun h4=>?_)
  ·simp only [go_sem];have hr:zcu w (nthR m i)=false:=by unfold zcu;rw [Yy (by omega)];rfl
   unfold matB;rw [rowR.all_f (p:=zcu w) hi hr,YaQ]
  have hrw:(nthR m i).length=w:=by omega
  simp (disch:=first|exact Zq|fail) only [go_sem];refine AXs.loop mixed (hΓ) (zg) (fun k:Nat=>[(2,.int .i64 w),(15,.fs (zI m) m.length),(16,.int .i64 m.length),(17,.int .i64 i),(25,.fs (strs (nthR m i)) (nthR m i).length),(26,.int .i64 (nthR m i).length),(27,.int .i64 k)]) (fun _=>⟨[],0⟩) (fun k=>k≤(nthR m i).length∧∀ q,q<k→p01 ((nthR m i).getD q [])=true) (fun k=>(nthR m i).length - k) 0 (by kernel_rfl) ⟨Yk _,fun q hq=>by omega⟩ (Sub.of0 [] rfl rfl ?_ ?_) ?_
  ·simp only [go_sem]
  ·simp only [go_sem]
  rintro k ⟨h5,h6⟩;simp only [go_sem];refine AXc.introP (fun h7=>?_) (fun h7=>?_)
  ·have hk:k<(nthR m i).length:=by omega
   have lsk:=ls _ (zbr hk);simp (disch:=first|exact Zq|fail) only [go_sem]
   (repeat refine sdC ?_);rw [zre];cases hp:p01 ((nthR m i).getD k [])with
   |false=>
    simp (disch:=first|exact Zq|fail) only [go_sem];have hr:zcu w (nthR m i)=false:=by unfold zcu;rw [zgC hk hp,YaQ]
    unfold matB;rw [rowR.all_f (p:=zcu w) hi hr,YaQ]
   |true=>
    simp (disch:=first|exact Zq|fail) only [go_sem];refine zi (k+1) ⟨by omega,fun q hq=>?_⟩ (by omega) (Sub.of0 [] rfl rfl ?_ ?_)
    ·by_cases hqk:q<k
     ·exact h6 q hqk
     ·obtain rfl:q=k:=by omega
      exact hp
    ·simp only [go_sem];simp
    ·simp only [go_sem]
  have hrow:zcu w (nthR m i)=true:=by unfold zcu;rw [YB hrw,zgB fun q hq=>h6 q (by omega)];rfl
  simp only [go_sem];refine AXa.go mixed (hΓ) (zg) (by kernel_rfl) ?_;simp (disch:=first|exact Zq|fail) only [go_sem];refine zi (i+1) ⟨by omega,fun j hj=>?_⟩ (by omega) (Sub.of0 [] rfl rfl ?_ ?_)
  ·by_cases hji:j<i
   ·exact h2 j hji
   ·obtain rfl:j=i:=by omega
    exact hrow
  ·simp only [go_sem];simp
  ·simp only [go_sem]
 ·have:i=m.length:=by omega
  subst this;simp only [go_sem];refine AXa.go mixed (hΓ) (zg) (by kernel_rfl) ?_;simp only [go_sem];unfold matB;rw [YB hn,rowR.all_t (p:=zcu w) h2];rfl
theorem zyl(m:List (List Str))(n w:Nat)(hm:m.length≤1000000)(hw:∀ r∈m,r.length≤1000000)(hs:∀ r∈m,∀ s∈r,s.length≤1000000):PCall prog 48 [.fs (zI m) m.length,.int .i64 n,.int .i64 w] (.ret (.bool (matB m n w))):=by
 have hΓ:=zf zir (zf zis zh);refine PCall.walk (rs:=[.tmp 6]) [0,1,2,6,7,8,12,16,25,32,65] [] mixed (hΓ) (zg) call48 func48 rfl ntmps48 rfl (by kernel_rfl) (by simp) (by simp [push_cast,zdy]) ?_;simp only [go_sem];refine AXc.introN (fun h0=>?_) (fun h0=>?_)
 ·simp only [go_sem];have:¬m.length=n:=by omega
  simp [matB,this]
 have hn:m.length=n:=by omega
 simp only [go_sem];refine AXs.loop mixed (hΓ) (zg) (fun i:Nat=>[(0,.fs (zI m) m.length),(2,.int .i64 w),(7,.int .i64 i)]) (fun _=>⟨[],0⟩) (fun i=>i≤m.length∧∀ j,j<i→zcu w (nthR m j)=true) (fun i=>m.length - i) 0 (by kernel_rfl) ⟨Yk _,fun j hj=>by omega⟩ (Sub.of0 [] rfl rfl ?_ ?_) ?_
 ·simp only [go_sem]
 ·simp only [go_sem]
 rintro i ⟨h1,h2⟩;simp only [go_sem];refine AXc.introP (fun h3=>?_) (fun h3=>?_)
 ·have hi:i<m.length:=by omega
  have at1:=zkz m i hi;have lw:=hw _ (rowR.nth_mem hi);have ls:=hs _ (rowR.nth_mem hi);rw [show rowR.nth m i=nthR m i from rfl]at lw ls;simp (disch:=first|exact Zq|fail) only [go_sem,at1]
  (repeat refine sdC ?_);refine AXc.introN (fun h4=>?_) (fun h4=>?_)
  ·simp only [go_sem];have hr:zcu w (nthR m i)=false:=by unfold zcu;rw [Yy (by omega)];rfl
   unfold matB;rw [rowR.all_f (p:=zcu w) hi hr,YaQ]
  have hrw:(nthR m i).length=w:=by omega
  simp (disch:=first|exact Zq|fail) only [go_sem];refine AXs.loop mixed (hΓ) (zg) (fun k:Nat=>[(0,.fs (zI m) m.length),(2,.int .i64 w),(7,.int .i64 i),(8,.int .i64 k)]) (fun _=>⟨[],0⟩) (fun k=>k≤(nthR m i).length∧∀ q,q<k→p01 ((nthR m i).getD q [])=true) (fun k=>(nthR m i).length - k) 0 (by kernel_rfl) ⟨Yk _,fun q hq=>by omega⟩ (Sub.of0 [] rfl rfl ?_ ?_) ?_
  ·simp only [go_sem]
  ·simp only [go_sem]
  rintro k ⟨h5,h6⟩;simp (disch:=first|exact Zq|fail) only [go_sem,at1]
  (repeat refine sdC ?_);refine AXc.introP (fun h7=>?_) (fun h7=>?_)
  ·have hk:k<(nthR m i).length:=by omega
   have lsk:=ls _ (zbr hk);simp (disch:=first|exact Zq|fail) only [go_sem,at1]
   (repeat refine sdC ?_);rw [zre];cases hp:p01 ((nthR m i).getD k [])with
   |false=>
    simp (disch:=first|exact Zq|fail) only [go_sem];have hr:zcu w (nthR m i)=false:=by unfold zcu;rw [zgC hk hp,YaQ]
    unfold matB;rw [rowR.all_f (p:=zcu w) hi hr,YaQ]
   |true=>
    simp (disch:=first|exact Zq|fail) only [go_sem];refine zi (k+1) ⟨by omega,fun q hq=>?_⟩ (by omega) (Sub.of0 [] rfl rfl ?_ ?_)
    ·by_cases hqk:q<k
     ·exact h6 q hqk
     ·obtain rfl:q=k:=by omega
      exact hp
    ·simp only [go_sem];simp
    ·simp only [go_sem]
  have hrow:zcu w (nthR m i)=true:=by unfold zcu;rw [YB hrw,zgB fun q hq=>h6 q (by omega)];rfl
  simp only [go_sem];refine AXa.go mixed (hΓ) (zg) (by kernel_rfl) ?_;simp (disch:=first|exact Zq|fail) only [go_sem];refine zi (i+1) ⟨by omega,fun j hj=>?_⟩ (by omega) (Sub.of0 [] rfl rfl ?_ ?_)
  ·by_cases hji:j<i
   ·exact h2 j hji
   ·obtain rfl:j=i:=by omega
    exact hrow
  ·simp only [go_sem];simp
  ·simp only [go_sem]
 ·have:i=m.length:=by omega
  subst this;simp only [go_sem];refine AXa.go mixed (hΓ) (zg) (by kernel_rfl) ?_;simp only [go_sem];unfold matB;rw [YB hn,rowR.all_t (p:=zcu w) h2];rfl
end Go.Proofs

namespace Go.Proofs
open Go.Ab Go.Cnt Go.Pl
def Is(a:Str)(x y:Nat):Prop:=0<y∧∃ n d,ratP a=some (false,n,d)∧n*y=x*d
theorem mulr {a b c:Nat}(hc:0<c)(h:a*c=b*c):a=b:=Nat.eq_of_mul_eq_mul_right hc h
theorem Is.eq {a:Str}{x y u v:Nat}(h:Is a x y)(hv:0<v)(e:x*v=u*y):Is a u v:=by
 obtain⟨hy,n,d,hr,he⟩:=h;refine⟨hv,n,d,hr,mulr hy ?_⟩;calc n*v*y=n*y*v:=by ac_rfl
  _=x*v*d:=by rw [he];ac_rfl
  _=u*d*y:=by rw [e];ac_rfl
theorem Is.zero {a:Str}{y:Nat}(h:Is a 0 y):a=[48]:=by
 obtain⟨hy,n,d,hr,he⟩:=h;have:n=0:=by
  rcases Nat.mul_eq_zero.1 (he.trans (Ybm d))with h|h
  ·exact h
  ·omega
 subst this;exact zmA hr
theorem Is.pos {a:Str}{x y:Nat}(h:Is a x y)(hx:0<x):a≠[48]:=by rintro rfl;obtain⟨hy,n,d,hr,he⟩:=h;have e:some (false,0,1)=some (false,n,d):=ratP_0.symm.trans hr;simp only [Yv,YbN,Yan]at e;rw [←e.1, ←e.2]at he;omega
theorem Is.dec {n:Nat}(h:(dec n).length≤400):Is (dec n) n 1:=⟨by omega,n,1,zfq h,rfl⟩
theorem mkV_is {m d:Nat}(hd:0<d)(h:(resP (mkV false m d)).2=0):Is (resP (mkV false m d)).1 m d:=by obtain⟨h1,h2⟩:=(zrk m d hd).2 h;have g1:m / Nat.gcd m d*Nat.gcd m d=m:=Nat.div_mul_cancel (Nat.gcd_dvd_left m d);have g2:d / Nat.gcd m d*Nat.gcd m d=d:=Nat.div_mul_cancel (Nat.gcd_dvd_right m d);refine⟨hd,_,_,h1,?_⟩;generalize m / Nat.gcd m d=p at*;generalize d / Nat.gcd m d=q at*;generalize Nat.gcd m d=g at*;subst g1 g2;ac_rfl
theorem Is.add {a b:Str}{x y u v:Nat}(ha:Is a x y)(hb:Is b u v)(h:(resP (zbv a b)).2=0):Is (resP (zbv a b)).1 (x*v+u*y) (y*v):=by
 obtain⟨hy,m,d,hr,he⟩:=ha;obtain⟨hv,n,f,hs,hf⟩:=hb;have hd:=(zbl hr).1;have hff:=(zbl hs).1;rw [zmE hr hs,sumS_pos]at h ⊢;refine(mkV_is (Ya1 hd hff) h).eq (Ya1 hy hv) ?_;show (m*f+n*d)*(y*v)=(x*v+u*y)*(d*f);rw [YV,YV];congr 1
 ·calc m*f*(y*v)=m*y*(f*v):=by ac_rfl
   _=x*v*(d*f):=by rw [he];ac_rfl
 ·calc n*d*(y*v)=n*v*(d*y):=by ac_rfl
   _=u*y*(d*f):=by rw [hf];ac_rfl
theorem Is.mul {a b:Str}{x y u v:Nat}(ha:Is a x y)(hb:Is b u v)(h:(resP (zaJ a b)).2=0):Is (resP (zaJ a b)).1 (x*u) (y*v):=by
 obtain⟨hy,m,d,hr,he⟩:=ha;obtain⟨hv,n,f,hs,hf⟩:=hb;have hd:=(zbl hr).1;have hff:=(zbl hs).1;rw [zfr hr hs]at h ⊢;refine(mkV_is (Ya1 hd hff) h).eq (Ya1 hy hv) ?_;calc m*n*(y*v)=(m*y)*(n*v):=by ac_rfl
  _=x*u*(d*f):=by rw [he,hf];ac_rfl
theorem Is.one {a:Str}{y:Nat}(h:Is a y y):∃ d,ratP a=some (false,d,d):=by
 obtain⟨hy,n,d,hr,he⟩:=h;have:n=d:=by rw [Yay y d]at he;exact mulr hy he
 subst this;exact⟨_,hr⟩
theorem Is.p01 {a:Str}{x y:Nat}(h:Is a x y)(hxy:x≤y):p01 a=true:=by
 obtain⟨hy,n,d,hr,he⟩:=h;have hd:=(zbl hr).1;have hnd:n≤d:=by
  have h1:n*y≤d*y:=by rw [he,Yay d y];exact YH d hxy
  exact Nat.le_of_mul_le_mul_right h1 hy
 have e1:ratP [49]=some (false,1,1):=zfq (n:=1) (by decide);have c0:0≤zbd a [48]:=by
  rw [zeE hr ratP_0];have:sumS false (n*1) (!false) (0*d)=(false,n):=by simp [sumS]
  rw [this];split
  ·exact YbX _
  ·rw [Yd (by simp)];decide
 have c1:zbd a [49]≤0:=by
  rw [zeE hr e1];have:sumS false (n*1) (!false) (1*d)=if d≤n then(false,n - d)else(true,d - n):=by simp [sumS]
  rw [this];by_cases hdn:d≤n
  ·rw [Yf hdn,Yf (show n - d=0 by omega)];exact YbX _
  ·rw [Yd hdn,Yd (show ¬d - n=0 by omega),Yf rfl];decide
 unfold Go.Proofs.p01;rw [hr,YB c0,YB c1];rfl
def pmul(a b:Str):Str×Int:=resP (zaJ a b)
def padd(a b:Str):Str×Int:=resP (zbv a b)
theorem zgY(a b:Str):(pmul a b).1.length≤1000:=zo6 a b
theorem zrb(a b:Str):(padd a b).1.length≤1000:=zo8 a b
theorem zAq(a b:Str)(la:a.length≤1000000000)(lb:b.length≤1000000000):zqf [.str a,.str b]=some (.ret (.tup [.str (pmul a b).1,.int .i64 (pmul a b).2])):=by have h:=zvv a b la lb;obtain⟨s,e,hse⟩:=zeX a b;unfold pmul;rw [hse,zfo, ←hse];exact h
theorem zsb(a b:Str)(la:a.length≤1000000000)(lb:b.length≤1000000000):zAI [.str a,.str b]=some (.ret (.tup [.str (pmul a b).1,.int .i64 (pmul a b).2])):=by have h:=zAH a b la lb;obtain⟨s,e,hse⟩:=zeX a b;unfold pmul;rw [hse,zfo, ←hse];exact h
theorem zsc(a b:Str)(la:a.length≤1000000000)(lb:b.length≤1000000000):zAK [.str a,.str b]=some (.ret (.tup [.str (padd a b).1,.int .i64 (padd a b).2])):=by have h:=zAJ a b la lb;obtain⟨s,e,hse⟩:=zo7 a b;unfold padd;rw [hse,zfo, ←hse];exact h
theorem zxw {a:Str}{s:Bool}{n d:Nat}(h:ratP a=some (s,n,d)):a=(if s then [45]else [])++dec n++(if d=1 then []else 47::dec d):=by
 unfold ratP at h;split at h
 case isFalse=>cases h
 case isTrue hk=>
  simp only [Yv,YbN]at h
  obtain⟨h1,h2,h3⟩:=h
  simp only [zbZ,Yc,Yh]at hk
  obtain⟨⟨⟨⟨k1,k2⟩,k3⟩,k4⟩,k5⟩:=hk
  have e1:=zak (shortN_iff.1 k1).1
  have e2:=zak (shortN_iff.1 k2).1
  rw [h2]at e1
  rw [h3]at e2
  rw [e1]
  have e3:(if d=1 then []else 47::dec d)=if (zB a).2.2.2=true then 47::(zB a).2.2.1 else []:=by
   rcases zhJ a with hf|hf
   ·rw [Yf hf];rw [hf]at k4;have hd:d≠1:=by rintro rfl;rw [←e2]at k4;simp at k4;exact k4.2 rfl
    rw [Yd hd,e2]
   ·by_cases hfr:(zB a).2.2.2=true
    ·rw [hfr,hf]at k4;simp at k4
    ·rw [Yd hfr];have hd:d=1:=by rw [←h3,hf];rfl
     rw [Yf hd]
  rw [e3, ←h1]
  clear e1 e2 e3 h1 h2 h3 k1 k2 k3 k4 k5
  unfold zB
  simp only
  have hn:decide (a.getD 0 0=45)=true→a=45::a.drop 1:=fun h=>by
   cases a with
   |nil=>revert h;decide
   |cons c l=>simp at h;simp [h]
  generalize hng:decide (a.getD 0 0=45)=neg at hn ⊢
  have hr:a=(if neg then [45]else [])++(if neg=true then a.drop 1 else a):=by
   cases neg with
   |false=>rfl
   |true=>exact hn rfl
  have hh:∀(r:Str) (x:Option Nat),r.findIdx? (· ==47)=x→a=(if neg then [45]else [])++r→a=(if (match x with|some i=>(neg,r.take i,r.drop (i+1),true)|none=>(neg,r,[49],false)).1=true then [45]else [])++(match x with|some i=>(neg,r.take i,r.drop (i+1),true)|none=>(neg,r,[49],false)).2.1++
   (if (match x with|some i=>(neg,r.take i,r.drop (i+1),true)|none=>(neg,r,[49],false)).2.2.2=true then 47::(match x with|some i=>(neg,r.take i,r.drop (i+1),true)|none=>(neg,r,[49],false)).2.2.1 else []):=by
   intro r x hx hr
   cases x with
   |none=>simp only [Ybt,YO,if_false];exact hr
   |some i=>
    simp only [if_true]
    rw [YaX]at hx
    obtain⟨hi,h47,_⟩:=hx
    have h47':r[i]=47:=by simpa using h47
    have:r=r.take i++47::r.drop (i+1):=by conv=>lhs;rw [←YaP i r,YaV hi,h47']
    rw [Ybl, ←this];exact hr
  exact hh _ _ rfl hr
theorem zjr {a:Str}{s:Bool}{n d:Nat}(h:ratP a=some (s,n,d))(hc:a.countP (· ≠47)≤4):d<10 ^ 4:=by
 have ht:=zxw h;by_cases hd:d=1
 ·subst hd;decide
 ·rw [Yd hd]at ht;have h1:(dec d).countP (· ≠47)=(dec d).length:=by rw [List.countP_eq_length];intro x hx;have:=Yg.1 (zcq d) x hx;simp only [Yh];rintro rfl;revert this;decide
  rw [ht,List.countP_append,List.countP_cons]at hc;exact zbs (k:=4) (by omega)
theorem Is.z {a:Str}{x y:Nat}(h:Is a x y):a=[48]↔x=0:=by
 constructor
 ·intro e;rcases YD x with h0|h0
  ·exact h0
  ·exact absurd e (h.pos h0)
 ·rintro rfl;exact h.zero
theorem Is.low {a:Str}{x y:Nat}(h:Is a x y):∃ n d,ratP a=some (false,n,d)∧0<d∧n≤x∧d≤y:=by
 obtain⟨hy,n,d,hr,he⟩:=h;obtain⟨hd,hg,_⟩:=zbl hr;refine⟨n,d,hr,hd,?_,?_⟩
 ·rcases YD x with h0|h0
  ·subst h0;rw [Ybm]at he;rcases Nat.mul_eq_zero.1 he with h|h
   ·omega
   ·omega
  ·have:n ∣ x*d:=⟨y,he.symm⟩;exact YcQ h0 (Nat.Coprime.dvd_of_dvd_mul_right hg this)
 ·have:d ∣ n*y:=⟨x,by rw [he];exact Yay _ _⟩;exact YcQ hy ((Nat.Coprime.symm hg).dvd_of_dvd_mul_left this)
theorem mkV_no {m d:Nat}(hm:m<10 ^ 400)(hd:d<10 ^ 400):(resP (mkV false m d)).2=0:=by unfold mkV;have l1:(dec (m / Nat.gcd m d)).length≤400:=zbM (YaN (Yck _ _) hm) (by decide);have l2:(dec (d / Nat.gcd m d)).length≤400:=zbM (YaN (Yck _ _) hd) (by decide);rw [Yd (by simp only [zh0];omega),zfo]
theorem zec {a b:Str}{x y u v:Nat}(ha:Is a x y)(hb:Is b u v):((pmul a b).2=0∧Is (pmul a b).1 (x*u) (y*v))∨((pmul a b).2=2∧¬(x*u<10 ^ 400∧y*v<10 ^ 400)):=by
 by_cases h:(pmul a b).2=0
 ·exact .inl ⟨h,ha.mul hb h⟩
 ·right;obtain⟨m,d,hr,hd,h1,h2⟩:=ha.low;obtain⟨n,f,hs,hf,h3,h4⟩:=hb.low;unfold pmul at h ⊢;rw [zfr hr hs]at h ⊢;refine⟨(zrk _ _ (Ya1 hd hf)).1 h,fun k=>h ?_⟩;exact mkV_no (YaN (Yak h1 h3) k.1) (YaN (Yak h2 h4) k.2)
theorem zrR {a b:Str}{x u y:Nat}(ha:Is a x y)(hb:Is b u y):zbd a b=if x=u then 0 else if x<u then -1 else 1:=by
 obtain⟨hy,m,d,hr,he⟩:=ha;obtain⟨_,n,f,hs,hf⟩:=hb;obtain⟨hd,_⟩:=zbl hr;obtain⟨hf0,_⟩:=zbl hs;rw [zeE hr hs];have e1:m*f*y=x*(d*f):=by
  calc m*f*y=m*y*f:=by ac_rfl
   _=x*(d*f):=by rw [he];ac_rfl
 have e2:n*d*y=u*(d*f):=by
  calc n*d*y=n*y*d:=by ac_rfl
   _=u*(d*f):=by rw [hf];ac_rfl
 have hdf:0<d*f:=Ya1 hd hf0;have s1:(sumS false (m*f) (!false) (n*d))=if n*d≤m*f then(false,m*f - n*d)else(true,n*d - m*f):=by simp [sumS]
 rw [s1];have lt_iff:m*f<n*d↔x<u:=by
  constructor
  ·intro h;have:=YbC h hy;rw [e1,e2]at this;exact YaS this
  ·intro h;have:=YbC h hdf;rw [←e1, ←e2]at this;exact YaS this
 have eq_iff:m*f=n*d↔x=u:=by
  constructor
  ·intro h;rw [h]at e1;exact mulr hdf (e1.symm.trans e2)
  ·intro h;rw [h]at e1;exact mulr hy (e1.trans e2.symm)
 generalize m*f=A at*;generalize n*d=B at*;by_cases h:B≤A
 ·rw [Yf h];dsimp only;by_cases h':A=B
  ·rw [Yf (by omega),Yf (eq_iff.1 h')]
  ·rw [Yd (by omega),Yd (by simp),Yd fun k=>h' (eq_iff.2 k),Yd fun k=>by have:=lt_iff.2 k;omega]
 ·rw [Yd h];dsimp only;rw [Yd (by omega),Yf rfl,Yd fun k=>by have:=eq_iff.2 k;omega,Yf (lt_iff.1 (by omega))]
theorem zhO {a:Str}(h:p01 a=true):∃ x y,Is a x y∧x≤y∧ratP a=some (false,x,y):=by
 unfold Go.Proofs.p01 at h;simp only [Yc,Yh]at h;obtain⟨⟨h1,h2⟩,h3⟩:=h;cases hr:ratP a with
 |none=>rw [hr]at h1;cases h1
 |some p=>
  obtain⟨s,n,d⟩:=p;obtain⟨hd,hg,_⟩:=zbl hr;have hs:s=false:=by
   cases s with
   |false=>rfl
   |true=>
    exfalso;rw [zeE hr ratP_0]at h2;have e:sumS true (n*1) (!false) (0*d)=(true,n):=by simp [sumS]
    rw [e]at h2;dsimp only at h2;by_cases hn:n=0
    ·subst hn;have:=zmA hr;subst this;rw [ratP_0]at hr;cases hr
    ·rw [Yd hn,Yf rfl]at h2;omega
  subst hs;have i1:Is a n d:=⟨hd,n,d,hr,rfl⟩;have e1:ratP [49]=some (false,1,1):=zfq (n:=1) (by decide);have i2:Is [49] d d:=⟨hd,1,1,e1,by rw [YaI,Yap]⟩;rw [zrR i1 i2]at h3;refine⟨n,d,i1,?_,rfl⟩;by_cases h:n=d
  ·omega
  ·rw [Yd h]at h3;by_cases h':n<d
   ·omega
   ·rw [Yd h']at h3;omega
def kn(f:Int)(r:Str×Int):Str×Int:=if r.2≠0 then([48],if f=0 then r.2 else f)else(r.1,f)
def tm(f:Int)(a b:Str):Str×Int:=kn f (pmul a b)
def ps(f:Int)(a b:Str):Str×Int:=kn f (padd a b)
theorem kn_len {f:Int}{r:Str×Int}(h:r.1.length≤1000):(kn f r).1.length≤1000:=by
 unfold kn;split
 ·simp
 ·exact h
theorem tm_len(f:Int)(a b:Str):(tm f a b).1.length≤1000:=kn_len (zgY a b)
end Go.Proofs
