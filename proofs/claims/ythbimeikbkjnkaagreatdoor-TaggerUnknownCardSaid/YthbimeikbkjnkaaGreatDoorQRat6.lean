/- rat: Mul, Add, Div. -/
import Derived.Test.YthbimeikbkjnkaaGreatDoorQRat4
import Derived.Test.YthbimeikbkjnkaaGreatDoorQNat5
import Derived.Test.YthbimeikbkjnkaaGreatDoorAbWalk
import Derived.Test.YthbimeikbkjnkaaGreatDoorQRat1
import Derived.Test.YthbimeikbkjnkaaGreatDoorT1
set_option linter.all false
namespace Go.Proofs
open Go.Ab Go.Pl
theorem zms {a:List UInt8}(h1:(zF a).1=false)(h2:(zF a).2.2.2=false):(zF a).2.1=a:=by
 unfold zF at*;simp only at*;split at h1
 ·split at h2
  ·cases h2
  ·rename_i e1 _ e2;rw [e1]at e2;cases e2
 ·rename_i e1;simp only [e1];simp only at h1;rw [h1];rfl
theorem ztk {b:List UInt8}{q:Bool}{f:Nat}(h:ratP b=some (q,0,f)):b=[48]:=by
 unfold ratP at h;split at h
 case isFalse=>cases h
 case isTrue hk=>
  simp only [Option.some.injEq,Prod.mk.injEq]at h
  obtain⟨_,h1,_⟩:=h
  simp only [zbQ,Bool.and_eq_true,decide_eq_true_eq]at hk
  obtain⟨⟨⟨⟨k1,k2⟩,k3⟩,k4⟩,k5⟩:=hk
  have e1:=zaj (shortN_iff.1 k1).1
  have e2:=zaj (shortN_iff.1 k2).1
  rw [h1]at e1 k5
  rw [Nat.gcd_zero_left]at k5
  rw [k5]at e2
  have e3:(zF b).2.1=[48]:=e1.symm
  have e4:(zF b).2.2.1=[49]:=e2.symm
  rw [e3]at k3
  rw [e4]at k4
  have n1:(zF b).1=false:=by cases h:(zF b).1<;>simp_all
  have n2:(zF b).2.2.2=false:=by cases h:(zF b).2.2.2<;>simp_all
  rw [←zms n1 n2];exact e3
noncomputable def cCpMul:List V→Option PR:=zG (fun p:List UInt8×List UInt8=>[.str p.1,.str p.2,.fn 112 []]) (fun p=>p.1.length≤1000000000∧p.2.length≤1000000000) (fun p=>.ret (zaO p.1 p.2))
theorem zwx:∀ args r,cCpMul args=some r→PCall Tryz.prog 111 args r:=zk fun p h=>zjE p.1 p.2 h.1 h.2 trivial
theorem zwy(a b:List UInt8)(la:a.length≤1000000000)(lb:b.length≤1000000000):cCpMul [.str a,.str b,.fn 112 []]=some (.ret (zaO a b)):=
 zn (pat:=fun p:List UInt8×List UInt8=>[V.str p.1,.str p.2,.fn 112 []]) (fun x y h=>by simp at h;exact Prod.ext h.1 h.2) (a,b) ⟨la,lb⟩
set_option maxRecDepth 100000 in
theorem ztm(a b:List UInt8)(la:a.length≤1000000000)(lb:b.length≤1000000000):PCall Tryz.prog 69 [.str a,.str b] (.ret (zaO a b)):=by
 have hΓ:=zg zwx zh;have hc:=zwy a b la lb;obtain⟨s,e,hse⟩:=zf3 a b;rw [hse]at hc ⊢;refine PCall.walk (rs:=[.tmp 4,.tmp 5]) [0,1,4,5] [] mixed (hΓ) (zf) call69 Tryz.func69 rfl Tryz.ntmps69 rfl (by kernel_rfl) (by simp) (by simp [push_cast]) ?_;simp (disch:=first|assumption|(push_cast<;>omega)|omega) only [go_sem,hc]
noncomputable def znr:List V→Option PR:=zG (fun p:List UInt8×List UInt8=>[.str p.1,.str p.2]) (fun p=>p.1.length≤1000000000∧p.2.length≤1000000000) (fun p=>.ret (zaO p.1 p.2))
theorem zrJ:∀ args r,znr args=some r→PCall Tryz.prog 69 args r:=zk fun p h=>ztm p.1 p.2 h.1 h.2
theorem zrK(a b:List UInt8)(la:a.length≤1000000000)(lb:b.length≤1000000000):znr [.str a,.str b]=some (.ret (zaO a b)):=
 zn (pat:=fun p:List UInt8×List UInt8=>[V.str p.1,.str p.2]) (fun x y h=>by simp at h;exact Prod.ext h.1 h.2) (a,b) ⟨la,lb⟩
end Go.Proofs

namespace Go.Proofs
open Go.Ab Go.Pl
theorem decHead {n:Nat}:(dec n).getD 0 0≠45:=by
 have h:=ze2 n;have hp:=zc3 n;intro e;have hm:(dec n).getD 0 0∈dec n:=by rw [List.getD_eq_getElem?_getD,List.getElem?_eq_getElem hp];exact List.getElem_mem hp
 have:=zdG (List.all_eq_true.1 h _ hm);rw [e]at this;revert this;decide
theorem decNo(n:Nat):∀ x∈dec n,(x==47)=false:=fun x hx=>by
 have:=zdG (List.all_eq_true.1 (ze2 n) x hx);cases e:x==47 with
 |false=>rfl
 |true=>
  have:x=47:=by simpa using e
  subst this;revert this;decide
theorem zg1(neg:Bool)(n d:Nat)(hn:neg=true→n≠0):zF (ratT neg n d)=(neg,dec n,if d=1 then [49]else dec d,decide (d≠1)):=by
 have hr:∀(y:List UInt8),(if neg=true∧n≠0 then [45]else [])++y=if neg=true then 45::y else y:=fun y=>by
  cases neg with
  |true=>rw [if_pos ⟨rfl,hn rfl⟩,if_pos rfl];rfl
  |false=>rw [if_neg (by simp),if_neg (by simp)];rfl
 have ht:ratT neg n d=if neg=true then 45::(dec n++(if d=1 then []else 47::dec d))else dec n++(if d=1 then []else 47::dec d):=by unfold ratT;rw [List.append_assoc,hr]
 have h0:(dec n++(if d=1 then []else 47::dec d)).getD 0 0=(dec n).getD 0 0:=by rw [List.getD_eq_getElem?_getD,List.getElem?_append_left (zc3 n),List.getD_eq_getElem?_getD]
 have hneg:decide ((ratT neg n d).getD 0 0=45)=neg:=by
  rw [ht];cases neg with
  |true=>rw [if_pos rfl];rfl
  |false=>rw [if_neg (by simp),h0];exact decide_eq_false decHead
 have hrest:(if neg=true then(ratT neg n d).drop 1 else ratT neg n d)=dec n++(if d=1 then []else 47::dec d):=by
  rw [ht];cases neg with
  |true=>rw [if_pos rfl,if_pos rfl];rfl
  |false=>rw [if_neg (by simp),if_neg (by simp)]
 have hfn:∀ l:List UInt8,(∀ x∈l,(x==47)=false)→∀ r,(l++47::r).findIdx? (· ==47)=some l.length:=by
  intro l;induction l with
  |nil=>intro _ r;simp [List.findIdx?_cons]
  |cons x l ih=>intro h r;rw [List.cons_append,List.findIdx?_cons];simp only [h x (List.mem_cons_self ..),Bool.false_eq_true,if_false,ih (fun y hy=>h y (List.mem_cons_of_mem _ hy)) r];rfl
 unfold zF;simp only [hneg,hrest];by_cases hd:d=1
 ·have:(dec n++(if d=1 then []else 47::dec d)).findIdx? (· ==47)=none:=by
   rw [if_pos hd,List.append_nil,List.findIdx?_eq_none_iff]
   exact decNo n
  simp only [this]
  rw [if_pos hd,if_pos hd,List.append_nil]
  simp [hd]
 ·have:(dec n++(if d=1 then []else 47::dec d)).findIdx? (· ==47)=some (dec n).length:=by
   rw [if_neg hd];exact hfn _ (decNo n) _
  simp only [this]
  rw [if_neg hd,if_neg hd,List.take_left]
  simp [hd]
theorem zeK {n:Nat}(h:(dec n).length≤400):zaW (dec n)=true:=by rw [shortN_iff,zeH];exact⟨by simp;omega,h⟩
theorem zkr {neg:Bool}{n d:Nat}(hn:neg=true→n≠0)(hd:0<d)(hg:Nat.gcd n d=1)(ln:(dec n).length≤400)(ld:(dec d).length≤400):ratP (ratT neg n d)=some (neg,n,d):=by
 unfold ratP;rw [zg1 neg n d hn];have hv:valD (if d=1 then [49]else dec d)=d:=by
  split
  ·rename_i h;rw [h];rfl
  ·exact zaw d
 have h1:dec 1=[49]:=rfl;have hs:zaW (if d=1 then [49]else dec d)=true:=by
  split
  ·rw [←h1];exact zeK (by decide)
  ·exact zeK ld
 have hok:zbQ neg (dec n) (if d=1 then [49]else dec d) (decide (d≠1))=true:=by
  unfold zbQ;rw [zeK ln,hs,hv,zaw];have h2:(neg&&decide (dec n=[48]))=false:=by
   cases hneg:neg with
   |false=>rfl
   |true=>have:=hn hneg;simp only [Bool.true_and,decide_eq_false_iff_not];intro e;exact this (dec_is_zero.1 e)
  have h3:(decide (d≠1)&&(decide ((if d=1 then [49]else dec d)=[48])||decide ((if d=1 then [49]else dec d)=[49])))=false:=by
   by_cases h:d=1
   ·simp [h]
   ·rw [if_neg h];have e1:¬dec d=[48]:=fun e=>by have:=dec_is_zero.1 e;omega
    have e2:¬dec d=[49]:=fun e=>h (zat (e.trans h1.symm));simp [e1,e2]
  rw [h2,h3];simp only [Bool.true_and,Bool.not_false,Bool.and_true,decide_eq_true_eq];exact hg
 rw [if_pos hok];simp only [zaw,hv]
theorem zf2 {n:Nat}(h:(dec n).length≤400):ratP (dec n)=some (false,n,1):=by
 have:=zkr (neg:=false) (n:=n) (d:=1) (fun h=>by cases h) (by omega) (Nat.gcd_one_right n) h (by decide);have e:ratT false n 1=dec n:=by unfold ratT;simp
 rwa [e]at this
theorem mkV_read(m:Nat)(d:Nat)(hd:0<d):((resP (mkV false m d)).2≠0→(resP (mkV false m d)).2=2)∧((resP (mkV false m d)).2=0→ratP (resP (mkV false m d)).1=some (false,m / Nat.gcd m d,d / Nat.gcd m d)∧0<d / Nat.gcd m d):=by
 unfold mkV;split
 ·rw [ziD];exact⟨fun _=>rfl,fun h=>by cases h⟩
 ·rename_i h;rw [zn9];have h':¬(400<(dec (m / Nat.gcd m d)).length∨400<(dec (d / Nat.gcd m d)).length):=by simpa [zeY] using h
  have hg:0<Nat.gcd m d:=Nat.gcd_pos_of_pos_right m hd;have hdg:0<d / Nat.gcd m d:=Nat.div_pos (Nat.le_of_dvd hd (Nat.gcd_dvd_right m d)) hg;refine⟨fun h=>absurd rfl h,fun _=>⟨?_,hdg⟩⟩;exact zkr (fun h=>by cases h) hdg (Nat.coprime_div_gcd_div_gcd hg) (by omega) (by omega)
theorem sumS_pos(a b:Nat):sumS false a false b=(false,a+b):=rfl
theorem ratP_0:ratP [48]=some (false,0,1):=by have:=zf2 (n:=0) (by decide);rwa [dec_zero]at this
end Go.Proofs

namespace Go.Proofs
open Go.Ab Go.Cnt Go.Pl
def p01(p:Str):Bool:=(ratP p).isSome&&decide (0≤za5 p [48])&&decide (za5 p [49]≤0)
def zeL(w:Nat)(r:List Str):Bool:=decide (r.length=w)&&r.all p01
def matB(m:List (List Str))(n w:Nat):Bool:=decide (m.length=n)&&m.all (zeL w)
theorem p01_bool(p:Str):(!(ratP p).isSome||decide (za5 p [48]<0)||decide (0<za5 p [49]))= !p01 p:=by
 unfold p01;rw [Bool.not_and,Bool.not_and];congr 1
 ·congr 1;by_cases h:0≤za5 p [48]
  ·simp [h]
  ·simp [h];omega
 ·by_cases h:za5 p [49]≤0
  ·simp [h]
  ·simp [h];omega
set_option maxHeartbeats 8000000 in
set_option maxRecDepth 100000 in
theorem rows_ok(m:List (List Str))(n w:Nat)(hm:m.length≤1000000)(hw:∀ r∈m,r.length≤1000000)(hs:∀ r∈m,∀ s∈r,s.length≤1000000):PCall Tryz.prog 107 [.fs (zJ m) m.length,.int .i64 n,.int .i64 w] (.ret (.bool (matB m n w))):=by
 have hΓ:=zg zlt (zg zhX zh);refine PCall.walk (rs:=[.tmp 6]) [0,1,2,6,8,10,14,15,16,17,18,24,25,26,27,28,43] [] mixed (hΓ) (zf) call107 Tryz.func107 rfl Tryz.ntmps107 rfl (by kernel_rfl) (by simp) (by simp [push_cast,zf5]) ?_;simp only [go_sem];refine AXc.introN (fun h0=>?_) (fun h0=>?_)
 ·simp only [go_sem];have:¬m.length=n:=by omega
  simp [matB,this]
 have hn:m.length=n:=by omega
 simp only [go_sem];refine AXs.loop mixed (hΓ) (zf) (fun i:Nat=>[(2,.int .i64 w),(15,.fs (zJ m) m.length),(16,.int .i64 m.length),(17,.int .i64 i)]) (fun _=>⟨[],0⟩) (fun i=>i≤m.length∧∀ j,j<i→zeL w (nthR m j)=true) (fun i=>m.length - i) 0 (by kernel_rfl) ⟨Nat.zero_le _,fun j hj=>by omega⟩ (Sub.of0 [] rfl rfl ?_ ?_) ?_
 ·simp only [go_sem]
 ·simp only [go_sem]
 rintro i ⟨h1,h2⟩;simp only [go_sem];refine AXc.introP (fun h3=>?_) (fun h3=>?_)
 ·have hi:i<m.length:=by omega
  have at1:=zn5 m i hi;have lw:=hw _ (rowR.nth_mem hi);have ls:=hs _ (rowR.nth_mem hi);rw [show rowR.nth m i=nthR m i from rfl]at lw ls;simp (disch:=first|assumption|(push_cast<;>omega)|omega) only [go_sem,at1]
  (repeat refine sdC ?_);refine AXc.introN (fun h4=>?_) (fun h4=>?_)
  ·simp only [go_sem];have hr:zeL w (nthR m i)=false:=by unfold zeL;rw [decide_eq_false (by omega)];rfl
   unfold matB;rw [rowR.all_f (p:=zeL w) hi hr,Bool.and_false]
  have hrw:(nthR m i).length=w:=by omega
  simp (disch:=first|assumption|(push_cast<;>omega)|omega) only [go_sem];refine AXs.loop mixed (hΓ) (zf) (fun k:Nat=>[(2,.int .i64 w),(15,.fs (zJ m) m.length),(16,.int .i64 m.length),(17,.int .i64 i),(25,.fs (strs (nthR m i)) (nthR m i).length),(26,.int .i64 (nthR m i).length),(27,.int .i64 k)]) (fun _=>⟨[],0⟩) (fun k=>k≤(nthR m i).length∧∀ q,q<k→p01 ((nthR m i).getD q [])=true) (fun k=>(nthR m i).length - k) 0 (by kernel_rfl) ⟨Nat.zero_le _,fun q hq=>by omega⟩ (Sub.of0 [] rfl rfl ?_ ?_) ?_
  ·simp only [go_sem]
  ·simp only [go_sem]
  rintro k ⟨h5,h6⟩;simp only [go_sem];refine AXc.introP (fun h7=>?_) (fun h7=>?_)
  ·have hk:k<(nthR m i).length:=by omega
   have lsk:=ls _ (zjy hk);simp (disch:=first|assumption|(push_cast<;>omega)|omega) only [go_sem]
   (repeat refine sdC ?_);rw [p01_bool];cases hp:p01 ((nthR m i).getD k [])with
   |false=>
    simp (disch:=first|assumption|(push_cast<;>omega)|omega) only [go_sem];have hr:zeL w (nthR m i)=false:=by unfold zeL;rw [zpb hk hp,Bool.and_false]
    unfold matB;rw [rowR.all_f (p:=zeL w) hi hr,Bool.and_false]
   |true=>
    simp (disch:=first|assumption|(push_cast<;>omega)|omega) only [go_sem];refine zo (k+1) ⟨by omega,fun q hq=>?_⟩ (by omega) (Sub.of0 [] rfl rfl ?_ ?_)
    ·by_cases hqk:q<k
     ·exact h6 q hqk
     ·obtain rfl:q=k:=by omega
      exact hp
    ·simp only [go_sem];simp
    ·simp only [go_sem]
  have hrow:zeL w (nthR m i)=true:=by unfold zeL;rw [decide_eq_true hrw,zpa fun q hq=>h6 q (by omega)];rfl
  simp only [go_sem];refine AXa.go mixed (hΓ) (zf) (by kernel_rfl) ?_;simp (disch:=first|assumption|(push_cast<;>omega)|omega) only [go_sem];refine zo (i+1) ⟨by omega,fun j hj=>?_⟩ (by omega) (Sub.of0 [] rfl rfl ?_ ?_)
  ·by_cases hji:j<i
   ·exact h2 j hji
   ·obtain rfl:j=i:=by omega
    exact hrow
  ·simp only [go_sem];simp
  ·simp only [go_sem]
 ·have:i=m.length:=by omega
  subst this;simp only [go_sem];refine AXa.go mixed (hΓ) (zf) (by kernel_rfl) ?_;simp only [go_sem];unfold matB;rw [decide_eq_true hn,rowR.all_t (p:=zeL w) h2];rfl
end Go.Proofs

namespace Go.Proofs
open Go.Ab Go.Cnt Go.Pl
def Is(a:Str)(x y:Nat):Prop:=0<y∧∃ n d,ratP a=some (false,n,d)∧n*y=x*d
theorem mulr {a b c:Nat}(hc:0<c)(h:a*c=b*c):a=b:=Nat.eq_of_mul_eq_mul_right hc h
theorem Is.eq {a:Str}{x y u v:Nat}(h:Is a x y)(hv:0<v)(e:x*v=u*y):Is a u v:=by
 obtain⟨hy,n,d,hr,he⟩:=h;refine⟨hv,n,d,hr,mulr hy ?_⟩;calc n*v*y=n*y*v:=by ac_rfl
  _=x*v*d:=by rw [he];ac_rfl
  _=u*d*y:=by rw [e];ac_rfl
theorem Is.zero {a:Str}{y:Nat}(h:Is a 0 y):a=[48]:=by
 obtain⟨hy,n,d,hr,he⟩:=h;have:n=0:=by
  rcases Nat.mul_eq_zero.1 (he.trans (Nat.zero_mul d))with h|h
  ·exact h
  ·omega
 subst this;exact ztk hr
theorem Is.pos {a:Str}{x y:Nat}(h:Is a x y)(hx:0<x):a≠[48]:=by rintro rfl;obtain⟨hy,n,d,hr,he⟩:=h;have e:some (false,0,1)=some (false,n,d):=ratP_0.symm.trans hr;simp only [Option.some.injEq,Prod.mk.injEq,true_and]at e;rw [←e.1, ←e.2]at he;omega
theorem Is.dec {n:Nat}(h:(dec n).length≤400):Is (dec n) n 1:=⟨by omega,n,1,zf2 h,rfl⟩
theorem mkV_is {m d:Nat}(hd:0<d)(h:(resP (mkV false m d)).2=0):Is (resP (mkV false m d)).1 m d:=by obtain⟨h1,h2⟩:=(mkV_read m d hd).2 h;have g1:m / Nat.gcd m d*Nat.gcd m d=m:=Nat.div_mul_cancel (Nat.gcd_dvd_left m d);have g2:d / Nat.gcd m d*Nat.gcd m d=d:=Nat.div_mul_cancel (Nat.gcd_dvd_right m d);refine⟨hd,_,_,h1,?_⟩;generalize m / Nat.gcd m d=p at*;generalize d / Nat.gcd m d=q at*;generalize Nat.gcd m d=g at*;subst g1 g2;ac_rfl
theorem Is.add {a b:Str}{x y u v:Nat}(ha:Is a x y)(hb:Is b u v)(h:(resP (zf4 a b)).2=0):Is (resP (zf4 a b)).1 (x*v+u*y) (y*v):=by
 obtain⟨hy,m,d,hr,he⟩:=ha;obtain⟨hv,n,f,hs,hf⟩:=hb;have hd:=(zb6 hr).1;have hff:=(zb6 hs).1;rw [ztq hr hs,sumS_pos]at h ⊢;refine(mkV_is (Nat.mul_pos hd hff) h).eq (Nat.mul_pos hy hv) ?_;show (m*f+n*d)*(y*v)=(x*v+u*y)*(d*f);rw [Nat.add_mul,Nat.add_mul];congr 1
 ·calc m*f*(y*v)=m*y*(f*v):=by ac_rfl
   _=x*v*(d*f):=by rw [he];ac_rfl
 ·calc n*d*(y*v)=n*v*(d*y):=by ac_rfl
   _=u*y*(d*f):=by rw [hf];ac_rfl
theorem Is.mul {a b:Str}{x y u v:Nat}(ha:Is a x y)(hb:Is b u v)(h:(resP (zaO a b)).2=0):Is (resP (zaO a b)).1 (x*u) (y*v):=by
 obtain⟨hy,m,d,hr,he⟩:=ha;obtain⟨hv,n,f,hs,hf⟩:=hb;have hd:=(zb6 hr).1;have hff:=(zb6 hs).1;rw [zks hr hs]at h ⊢;refine(mkV_is (Nat.mul_pos hd hff) h).eq (Nat.mul_pos hy hv) ?_;calc m*n*(y*v)=(m*y)*(n*v):=by ac_rfl
  _=x*u*(d*f):=by rw [he,hf];ac_rfl
theorem Is.one {a:Str}{y:Nat}(h:Is a y y):∃ d,ratP a=some (false,d,d):=by
 obtain⟨hy,n,d,hr,he⟩:=h;have:n=d:=by rw [Nat.mul_comm y d]at he;exact mulr hy he
 subst this;exact⟨_,hr⟩
theorem Is.p01 {a:Str}{x y:Nat}(h:Is a x y)(hxy:x≤y):p01 a=true:=by
 obtain⟨hy,n,d,hr,he⟩:=h;have hd:=(zb6 hr).1;have hnd:n≤d:=by
  have h1:n*y≤d*y:=by rw [he,Nat.mul_comm d y];exact Nat.mul_le_mul_right d hxy
  exact Nat.le_of_mul_le_mul_right h1 hy
 have e1:ratP [49]=some (false,1,1):=zf2 (n:=1) (by decide);have c0:0≤za5 a [48]:=by
  rw [ziI hr ratP_0];have:sumS false (n*1) (!false) (0*d)=(false,n):=by simp [sumS]
  rw [this];split
  ·exact Int.le_refl _
  ·rw [if_neg (by simp)];decide
 have c1:za5 a [49]≤0:=by
  rw [ziI hr e1];have:sumS false (n*1) (!false) (1*d)=if d≤n then(false,n - d)else(true,d - n):=by simp [sumS]
  rw [this];by_cases hdn:d≤n
  ·rw [if_pos hdn,if_pos (show n - d=0 by omega)];exact Int.le_refl _
  ·rw [if_neg hdn,if_neg (show ¬d - n=0 by omega),if_pos rfl];decide
 unfold Go.Proofs.p01;rw [hr,decide_eq_true c0,decide_eq_true c1];rfl
def pmul(a b:Str):Str×Int:=resP (zaO a b)
def padd(a b:Str):Str×Int:=resP (zf4 a b)
theorem pmul_len(a b:Str):(pmul a b).1.length≤1000:=zmu a b
theorem zv3(a b:Str)(la:a.length≤1000000000)(lb:b.length≤1000000000):znr [.str a,.str b]=some (.ret (.tup [.str (pmul a b).1,.int .i64 (pmul a b).2])):=by have h:=zrK a b la lb;obtain⟨s,e,hse⟩:=zf3 a b;unfold pmul;rw [hse,zn9, ←hse];exact h
theorem Is.z {a:Str}{x y:Nat}(h:Is a x y):a=[48]↔x=0:=by
 constructor
 ·intro e;rcases Nat.eq_zero_or_pos x with h0|h0
  ·exact h0
  ·exact absurd e (h.pos h0)
 ·rintro rfl;exact h.zero
theorem Is.low {a:Str}{x y:Nat}(h:Is a x y):∃ n d,ratP a=some (false,n,d)∧0<d∧n≤x∧d≤y:=by
 obtain⟨hy,n,d,hr,he⟩:=h;obtain⟨hd,hg,_⟩:=zb6 hr;refine⟨n,d,hr,hd,?_,?_⟩
 ·rcases Nat.eq_zero_or_pos x with h0|h0
  ·subst h0;rw [Nat.zero_mul]at he;rcases Nat.mul_eq_zero.1 he with h|h
   ·omega
   ·omega
  ·have:n ∣ x*d:=⟨y,he.symm⟩;exact Nat.le_of_dvd h0 (Nat.Coprime.dvd_of_dvd_mul_right hg this)
 ·have:d ∣ n*y:=⟨x,by rw [he];exact Nat.mul_comm _ _⟩;exact Nat.le_of_dvd hy ((Nat.Coprime.symm hg).dvd_of_dvd_mul_left this)
def kn(f:Int)(r:Str×Int):Str×Int:=if r.2≠0 then([48],if f=0 then r.2 else f)else(r.1,f)
def tm(f:Int)(a b:Str):Str×Int:=kn f (pmul a b)
def ps(f:Int)(a b:Str):Str×Int:=kn f (padd a b)
theorem kn_len {f:Int}{r:Str×Int}(h:r.1.length≤1000):(kn f r).1.length≤1000:=by
 unfold kn;split
 ·simp
 ·exact h
theorem zsr(f:Int)(a b:Str):(tm f a b).1.length≤1000:=kn_len (pmul_len a b)
end Go.Proofs

namespace Go.Proofs
open Go.Ab Go.Cnt Go.Pl
theorem badW_ok(s:Str):PCall Tryz.prog 66 [.str s] (.ret (.bool (!nameB s))):=by
 refine PCall.walk (rs:=[.tmp 2]) [0,2] [] mixed (zh) (zf) call66 Tryz.func66 rfl Tryz.ntmps66 rfl (by kernel_rfl) (by simp) (by simp [push_cast]) ?_;simp only [go_sem];have e:decide (40<(s.length:Int))= !decide (s.length≤40):=by
  by_cases h:s.length≤40
  ·rw [decide_eq_true h,decide_eq_false (by omega)];rfl
  ·rw [decide_eq_false h,decide_eq_true (by omega)];rfl
 unfold nameB;rw [e];cases s<;>simp
noncomputable def cBadW:List V→Option PR:=zG (fun a:Str=>[.str a]) (fun _=>True) fun a=>.ret (.bool (!nameB a))
@[go_sem] theorem cBadW_eq(a:Str):cBadW [.str a]=some (.ret (.bool (!nameB a))):=zn (pat:=fun a:Str=>[.str a]) (fun x y h=>by simpa using h) a trivial
theorem cBadW_ok:∀ args r,cBadW args=some r→PCall Tryz.prog 66 args r:=zk fun a _=>badW_ok a
def fbS:List Str→Nat
 |[]=>0
 |a::l=>if nameB a=false then 0 else fbS l+1
theorem fbS_eq:∀ {l:List Str} {i:Nat},i<l.length→nameB (l.getD i [])=false→(∀ j,j<i→nameB (l.getD j [])=true)→fbS l=i
 |[],_,h,_,_=>by simp at h
 |a::l,0,_,h,_=>by
  have:nameB a=false:=by simpa using h
  unfold fbS;rw [if_pos this]
 |a::l,i+1,h,h1,h2=>by
  have h3:nameB a=true:=by simpa using h2 0 (by omega)
  unfold fbS;rw [if_neg (by rw [h3];simp),fbS_eq (l:=l) (i:=i) (by simpa using h) (by simpa using h1) (fun j hj=>by simpa using h2 (j+1) (by omega))]
def fbI(l:List Str):Int:=if l.all nameB=true then -1 else fbS l
set_option maxHeartbeats 4000000 in
theorem ixf_ok(l:List Str)(hl:l.length≤1000000):PCall Tryz.prog 108 [.fs (strs l) l.length,.fn 66 []] (.ret (.int .i64 (fbI l))):=by
 have hΓ:=zg cBadW_ok zh;refine PCall.walk (rs:=[.tmp 4]) [0,1,4,5,7,8,9,16] [] mixed (hΓ) (zf) call108 Tryz.func108 rfl Tryz.ntmps108 rfl (by kernel_rfl) (by simp) (by simp [push_cast]) ?_;simp only [go_sem];refine AXs.loop mixed (hΓ) (zf) (fun i:Nat=>[(0,.fs (strs l) l.length),(1,.fn 66 []),(7,.int .i64 l.length),(8,.int .i64 i)]) (fun _=>⟨[],0⟩) (fun i=>i≤l.length∧∀ j,j<i→nameB (l.getD j [])=true) (fun i=>l.length - i) 0 (by kernel_rfl) ⟨Nat.zero_le _,fun j hj=>by omega⟩ (Sub.of0 [] rfl rfl ?_ ?_) ?_
 ·simp only [go_sem]
 ·simp only [go_sem]
 rintro i ⟨h1,h2⟩;simp only [go_sem];refine AXc.introP (fun h3=>?_) (fun h3=>?_)
 ·have hi:i<l.length:=by omega
  simp (disch:=first|assumption|(push_cast<;>omega)|omega) only [go_sem]
  (repeat refine sdC ?_);cases hn:nameB (l.getD i [])with
  |false=>
   simp (disch:=first|assumption|(push_cast<;>omega)|omega) only [go_sem];have e:fbI l=i:=by unfold fbI;rw [zpb hi hn,if_neg (by simp),fbS_eq hi hn h2]
   rw [e]
  |true=>
   simp (disch:=first|assumption|(push_cast<;>omega)|omega) only [go_sem];refine zo (i+1) ⟨by omega,fun j hj=>?_⟩ (by omega) (Sub.of0 [] rfl rfl ?_ ?_)
   ·by_cases hji:j<i
    ·exact h2 j hji
    ·obtain rfl:j=i:=by omega
     exact hn
   ·simp only [go_sem];simp
   ·simp only [go_sem]
 ·obtain rfl:i=l.length:=by omega
  have e:fbI l= -1:=by unfold fbI;rw [zpa h2,if_pos rfl]
  rw [e];simp only [go_sem];refine AXa.go mixed (hΓ) (zf) (by kernel_rfl) ?_;simp only [go_sem]
noncomputable def cIxf:List V→Option PR:=zG (fun l:List Str=>[.fs (strs l) l.length,.fn 66 []]) (fun l=>l.length≤1000000) fun l=>.ret (.int .i64 (fbI l))
@[go_sem] theorem cIxf_eq(l:List Str)(hl:l.length≤1000000):cIxf [.fs (strs l) l.length,.fn 66 []]=some (.ret (.int .i64 (fbI l))):=
 zn (pat:=fun l:List Str=>[.fs (strs l) l.length,.fn 66 []]) (fun x y h=>by simp at h;exact zaB h.1) l hl
theorem cIxf_ok:∀ args r,cIxf args=some r→PCall Tryz.prog 108 args r:=zk fun l h=>ixf_ok l h
theorem cof_ok(l:List Str)(hl:l.length≤1000000):PCall Tryz.prog 65 [.fs (strs l) l.length,.fn 66 []] (.ret (.bool (!l.all nameB))):=by
 refine PCall.walk (rs:=[.tmp 4]) [0,1,4] [] mixed (zg cIxf_ok zh) (zf) call65 Tryz.func65 rfl Tryz.ntmps65 rfl (by kernel_rfl) (by simp) (by simp [push_cast]) ?_;have e:decide (0≤fbI l)= !l.all nameB:=by
  unfold fbI;cases h:l.all nameB with
  |false=>rw [if_neg (by simp)];exact decide_eq_true (by omega)
  |true=>rw [if_pos rfl];exact decide_eq_false (by omega)
 simp (disch:=first|assumption|(push_cast<;>omega)|omega) only [go_sem];rw [e]
noncomputable def cCof:List V→Option PR:=zG (fun l:List Str=>[.fs (strs l) l.length,.fn 66 []]) (fun l=>l.length≤1000000) fun l=>.ret (.bool (!l.all nameB))
@[go_sem] theorem cCof_eq(l:List Str)(hl:l.length≤1000000):cCof [.fs (strs l) l.length,.fn 66 []]=some (.ret (.bool (!l.all nameB))):=
 zn (pat:=fun l:List Str=>[.fs (strs l) l.length,.fn 66 []]) (fun x y h=>by simp at h;exact zaB h.1) l hl
theorem zwz:∀ args r,cCof args=some r→PCall Tryz.prog 65 args r:=zk fun l h=>cof_ok l h
def zc8(l:List Str):Bool:=l.all nameB&&decide (l.length≤200)
structure Run where
 m:Mdl
 cs:List Nat
 f:Int
def runC(r:Run):List V:=[.fs (strs r.m.tags) r.m.tags.length,.fs (strs r.m.words) r.m.words.length,.fs (zJ r.m.next) r.m.next.length,.fs (zJ r.m.emit) r.m.emit.length,.fs (nats .i64 r.cs) r.cs.length,.int .i64 r.f]
theorem zee {a b:Run}(h:runC a=runC b):a=b:=by obtain⟨⟨a1,a2,a3,a4⟩,a5,a6⟩:=a;obtain⟨⟨b1,b2,b3,b4⟩,b5,b6⟩:=b;simp only [runC,List.cons.injEq,V.fs.injEq,V.int.injEq,and_true,true_and]at h;obtain⟨⟨h1,_⟩,⟨h2,_⟩,⟨h3,_⟩,⟨h4,_⟩,⟨h5,_⟩,h6⟩:=h;rw [zaB h1,zaB h2,zcA h3,zcA h4,zar h5,h6]
theorem za4(r:Run):∀ x∈runC r,Pure x:=fun x h=>by
 simp only [runC,List.mem_cons,List.not_mem_nil,or_false]at h;rcases h with rfl|rfl|rfl|rfl|rfl|rfl
 ·exact .fs (zT _)
 ·exact .fs (zT _)
 ·exact .fs (zaG _)
 ·exact .fs (zaG _)
 ·exact .fs (zaa _ _)
 ·exact .int _ _
def mEnds:Meth Unit Run where
 pat _:=[]
 cel:=runC
 cond _ r:=r.m.tags.length≤1000000
 val _ r:=.int .i64 r.m.tags.length
 upd _ r:=r
 patI _ _ _:=rfl
 celI _ _:=zee
 patP _ v h:=by simp at h
 celP:=za4
 valP _ _:=.int _ _
def zt8:Meth (Str×Int) Run where
 pat x:=[.str x.1,.int .i64 x.2]
 cel:=runC
 cond _ _:=True
 val x r:=.str (kn r.f x).1
 upd x r:=⟨r.m,r.cs,(kn r.f x).2⟩
 patI x y h:=by simp at h;exact Prod.ext h.1 h.2
 celI _ _:=zee
 patP x v h:=by
  simp only [List.mem_cons,List.not_mem_nil,or_false]at h;rcases h with rfl|rfl
  ·exact .str _
  ·exact .int _ _
 celP:=za4
 valP _ _:=.str _
def zhG:Meth (Str×Str) Run where
 pat x:=[.str x.1,.str x.2]
 cel:=runC
 cond x _:=x.1.length≤1000000000∧x.2.length≤1000000000
 val x r:=.str (tm r.f x.1 x.2).1
 upd x r:=⟨r.m,r.cs,(tm r.f x.1 x.2).2⟩
 patI x y h:=by simp at h;exact Prod.ext h.1 h.2
 celI _ _:=zee
 patP x v h:=by
  simp only [List.mem_cons,List.not_mem_nil,or_false]at h;rcases h with rfl|rfl
  ·exact .str _
  ·exact .str _
 celP:=za4
 valP _ _:=.str _
set_option maxHeartbeats 4000000 in
theorem ends_N(r:Run)(h:r.m.tags.length≤1000000):NCall Tryz.prog 34 [.ptr 0 0] [.cells (runC r)] [] (.int .i64 r.m.tags.length) ⟨[(0,.cells (runC r))],1⟩:=by
 refine NCall.walk (rs:=[.tmp 2]) [0,2] [] 1 mixed (zh) (zf) call34 Tryz.func34 rfl Tryz.ntmps34 rfl (by kernel_rfl) (by simp) (by simp) (by simp) ?_;obtain⟨⟨T,W,N,E⟩,cs,f⟩:=r;unfold runC;dsimp only at h ⊢;simp only [go_sem];refine⟨[(2,.int .i64 T.length)],Sub.of [] rfl ?_ ?_ (by decide) (fun b hb hw=>?_),rfl⟩
 ·simp only [go_sem]
 ·simp only [go_sem]
 ·obtain rfl:b=0:=Nat.lt_one_iff.1 hb;rfl
set_option maxHeartbeats 4000000 in
theorem known_N(r:Run)(p:Str)(e:Int):NCall Tryz.prog 68 [.ptr 0 0,.str p,.int .i64 e] [.cells (runC r)] [0] (.str (kn r.f (p,e)).1) ⟨[(0,.cells (runC ⟨r.m,r.cs,(kn r.f (p,e)).2⟩))],1⟩:=by
 refine NCall.walkW (rs:=[.tmp 6]) [0,1,2,6,8,13] [] 1 [0] mixed (zh) (zf) call68 Tryz.func68 rfl Tryz.ntmps68 rfl (by kernel_rfl) (by simp) (by simp) (by simp) (by simp) ?_;obtain⟨⟨T,W,N,E⟩,cs,f⟩:=r;unfold runC kn;dsimp only;simp only [go_sem];refine AXc.introN (fun h1=>?_) (fun h1=>?_)
 ·rw [if_pos h1];simp only [go_sem];refine AXc.introP (fun h2=>?_) (fun h2=>?_)
  ·rw [if_pos h2];simp (disch:=first|assumption|(push_cast<;>omega)|omega) only [go_sem];refine⟨rfl,[(6,.str [48])],Sub.of [] rfl ?_ ?_ (by decide) (fun b hb hw=>absurd (Nat.lt_one_iff.1 hb) (by simpa using hw)),rfl⟩
   ·simp only [go_sem]
   ·simp only [go_sem]
  ·rw [if_neg h2];simp (disch:=first|assumption|(push_cast<;>omega)|omega) only [go_sem];refine⟨[(6,.str [48])],Sub.of [] rfl ?_ ?_ (by decide) (fun b hb hw=>absurd (Nat.lt_one_iff.1 hb) (by simpa using hw)),rfl⟩
   ·simp only [go_sem]
   ·simp only [go_sem]
 ·rw [if_neg (fun h=>h h1)];simp only [go_sem];refine⟨[(6,.str p)],Sub.of [] rfl ?_ ?_ (by decide) (fun b hb hw=>absurd (Nat.lt_one_iff.1 hb) (by simpa using hw)),rfl⟩
  ·simp only [go_sem]
  ·simp only [go_sem]
noncomputable def ΔK:FuncId→List V→Hp→Option AR:=zcu 68 (conD (zxz zt8)) noΔ
theorem ΔK_ok:za0 Tryz.prog ΔK:=zas (zaQ (zjc zt8 fun x r _=>known_N r x.1 x.2)) zf
theorem ΔK_at(r:Run)(x:Str×Int):ΔK 68 [.ptr 0 0,.str x.1,.int .i64 x.2] ⟨[(0,.cells (runC r))],1⟩=some ⟨True,.str (kn r.f x).1,⟨[(0,.cells (runC ⟨r.m,r.cs,(kn r.f x).2⟩))],1⟩,[0],[0]⟩:=
 zjd zt8 (b:=0) (x:=x) (s:=r) (bs:=[(0,.cells (runC r))]) (n:=1) trivial rfl rfl
theorem runC_rn {π:Nat→Nat}{N:Nat→Prop}(r:Run):LRel (Rn π N) (runC r) (runC r)↔True:=⟨fun _=>trivial,fun _=>zt (za4 r)⟩
attribute [go_sem] runC_rn
set_option maxHeartbeats 4000000 in
theorem zsu(r:Run)(p q:Str)(lp:p.length≤1000000000)(lq:q.length≤1000000000):NCall Tryz.prog 36 [.ptr 0 0,.str p,.str q] [.cells (runC r)] [0] (.str (tm r.f p q).1) ⟨[(0,.cells (runC ⟨r.m,r.cs,(tm r.f p q).2⟩))],1⟩:=by
 have hΓ:=zg zrJ zh;have r1:=zv3 p q lp lq;have r2:=ΔK_at r (pmul p q);have hv:tm r.f p q=kn r.f (pmul p q):=rfl;rw [hv];refine NCall.walkW (rs:=[.tmp 6]) [0,1,2,6] [] 1 [0] mixed (hΓ) (ΔK_ok) call36 Tryz.func36 rfl Tryz.ntmps36 rfl (by kernel_rfl) (by simp) (by simp) (by simp) (by simp) ?_;simp (disch:=first|assumption|(push_cast<;>omega)|omega) only [go_sem,r1,r2];refine⟨rfl,[(6,.str (kn r.f (pmul p q)).1)],Sub.of [] rfl ?_ ?_ (by decide) (fun b hb hw=>absurd (Nat.lt_one_iff.1 hb) (by simpa using hw)),rfl⟩
 ·simp only [go_sem]
 ·simp only [go_sem]
end Go.Proofs
