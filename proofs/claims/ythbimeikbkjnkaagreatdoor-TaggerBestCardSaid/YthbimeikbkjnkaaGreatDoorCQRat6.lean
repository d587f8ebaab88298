/- rat: Mul, Add, Div. -/
import Derived.Test.YthbimeikbkjnkaaGreatDoorCF3c
set_option linter.all false
set_option maxHeartbeats 16000000
set_option maxRecDepth 100000
namespace Go.Proofs
open Tryz Go.Ab Go.Pl
theorem zop {a:List UInt8}(h1:(zC a).1=false)(h2:(zC a).2.2.2=false):(zC a).2.1=a:=by
 unfold zC at*;simp only at*;split at h1
 ·split at h2
  ·cases h2
  ·rename_i e1 _ e2;rw [e1]at e2;cases e2
 ·rename_i e1;simp only [e1];simp only at h1;rw [h1];rfl
theorem zl3 {b:List UInt8}{q:Bool}{f:Nat}(h:ratP b=some (q,0,f)):b=[48]:=by
 unfold ratP at h;split at h
 case isFalse=>cases h
 case isTrue hk=>
  simp only [Option.some.injEq,Prod.mk.injEq]at h
  obtain⟨_,h1,_⟩:=h
  simp only [zbU,Bool.and_eq_true,decide_eq_true_eq]at hk
  obtain⟨⟨⟨⟨k1,k2⟩,k3⟩,k4⟩,k5⟩:=hk
  have e1:=zaj (shortN_iff.1 k1).1
  have e2:=zaj (shortN_iff.1 k2).1
  rw [h1]at e1 k5
  rw [Nat.gcd_zero_left]at k5
  rw [k5]at e2
  have e3:(zC b).2.1=[48]:=e1.symm
  have e4:(zC b).2.2.1=[49]:=e2.symm
  rw [e3]at k3
  rw [e4]at k4
  have n1:(zC b).1=false:=by cases h:(zC b).1<;>simp_all
  have n2:(zC b).2.2.2=false:=by cases h:(zC b).2.2.2<;>simp_all
  rw [←zop n1 n2];exact e3
noncomputable def cCpMul:List V→Option PR:=zF (fun p:List UInt8×List UInt8=>[.str p.1,.str p.2,.fn 112 []]) (fun p=>p.1.length≤1000000000∧p.2.length≤1000000000) (fun p=>.ret (zaO p.1 p.2))
theorem zz7:∀ args r,cCpMul args=some r→PCall prog 111 args r:=zn fun p h=>zla p.1 p.2 h.1 h.2 trivial
theorem zz8(a b:List UInt8)(la:a.length≤1000000000)(lb:b.length≤1000000000):cCpMul [.str a,.str b,.fn 112 []]=some (.ret (zaO a b)):=
 zo (pat:=fun p:List UInt8×List UInt8=>[V.str p.1,.str p.2,.fn 112 []]) (fun x y h=>by simp at h;exact Prod.ext h.1 h.2) (a,b) ⟨la,lb⟩
theorem zwi(a b:List UInt8)(la:a.length≤1000000000)(lb:b.length≤1000000000):PCall prog 69 [.str a,.str b] (.ret (zaO a b)):=by
 have hΓ:=zf zz7 zh;have hc:=zz8 a b la lb;obtain⟨s,e,hse⟩:=zhk a b;rw [hse]at hc ⊢;refine PCall.wD (rs:=[.tmp 4,.tmp 5]) [0,1,4,5] [] mixed (hΓ) (zg) call69 func69 rfl ntmps69 rfl ?_;simp (disch:=first|assumption|(push_cast<;>omega)|omega) only [go_sem,hc]
noncomputable def cCpAdd:List V→Option PR:=zF (fun p:List UInt8×List UInt8=>[.str p.1,.str p.2,.fn 119 []]) (fun p=>p.1.length≤1000000000∧p.2.length≤1000000000) (fun p=>.ret (zaY p.1 p.2))
theorem zz9:∀ args r,cCpAdd args=some r→PCall prog 111 args r:=zn fun p h=>zlb p.1 p.2 h.1 h.2 trivial
theorem zAa(a b:List UInt8)(la:a.length≤1000000000)(lb:b.length≤1000000000):cCpAdd [.str a,.str b,.fn 119 []]=some (.ret (zaY a b)):=
 zo (pat:=fun p:List UInt8×List UInt8=>[V.str p.1,.str p.2,.fn 119 []]) (fun x y h=>by simp at h;exact Prod.ext h.1 h.2) (a,b) ⟨la,lb⟩
theorem zwk(a b:List UInt8)(la:a.length≤1000000000)(lb:b.length≤1000000000):PCall prog 72 [.str a,.str b] (.ret (zaY a b)):=by
 have hΓ:=zf zz9 zh;have hc:=zAa a b la lb;obtain⟨s,e,hse⟩:=zhm a b;rw [hse]at hc ⊢;refine PCall.wD (rs:=[.tmp 4,.tmp 5]) [0,1,4,5] [] mixed (hΓ) (zg) call72 func72 rfl ntmps72 rfl ?_;simp (disch:=first|assumption|(push_cast<;>omega)|omega) only [go_sem,hc]
noncomputable def zpz:List V→Option PR:=zF (fun p:List UInt8×List UInt8=>[.str p.1,.str p.2]) (fun p=>p.1.length≤1000000000∧p.2.length≤1000000000) (fun p=>.ret (zaO p.1 p.2))
theorem zur:∀ args r,zpz args=some r→PCall prog 69 args r:=zn fun p h=>zwi p.1 p.2 h.1 h.2
theorem zus(a b:List UInt8)(la:a.length≤1000000000)(lb:b.length≤1000000000):zpz [.str a,.str b]=some (.ret (zaO a b)):=
 zo (pat:=fun p:List UInt8×List UInt8=>[V.str p.1,.str p.2]) (fun x y h=>by simp at h;exact Prod.ext h.1 h.2) (a,b) ⟨la,lb⟩
noncomputable def zpA:List V→Option PR:=zF (fun p:List UInt8×List UInt8=>[.str p.1,.str p.2]) (fun p=>p.1.length≤1000000000∧p.2.length≤1000000000) (fun p=>.ret (zaY p.1 p.2))
theorem zuu:∀ args r,zpA args=some r→PCall prog 72 args r:=zn fun p h=>zwk p.1 p.2 h.1 h.2
theorem zuv(a b:List UInt8)(la:a.length≤1000000000)(lb:b.length≤1000000000):zpA [.str a,.str b]=some (.ret (zaY a b)):=
 zo (pat:=fun p:List UInt8×List UInt8=>[V.str p.1,.str p.2]) (fun x y h=>by simp at h;exact Prod.ext h.1 h.2) (a,b) ⟨la,lb⟩
end Go.Proofs

namespace Go.Proofs
open Go.Ab Go.Pl
theorem decHead {n:Nat}:(dec n).getD 0 0≠45:=by
 have h:=zce n;have hp:=zcX n;intro e;have hm:(dec n).getD 0 0∈dec n:=by rw [List.getD_eq_getElem?_getD,List.getElem?_eq_getElem hp];exact List.getElem_mem hp
 have:=zbx (List.all_eq_true.1 h _ hm);rw [e]at this;revert this;decide
theorem decNo(n:Nat):∀ x∈dec n,(x==47)=false:=fun x hx=>by
 have:=zbx (List.all_eq_true.1 (zce n) x hx);cases e:x==47 with
 |false=>rfl
 |true=>
  have:x=47:=by simpa using e
  subst this;revert this;decide
theorem zir(neg:Bool)(n d:Nat)(hn:neg=true→n≠0):zC (ratT neg n d)=(neg,dec n,if d=1 then [49]else dec d,decide (d≠1)):=by
 have hr:∀(y:List UInt8),(if neg=true∧n≠0 then [45]else [])++y=if neg=true then 45::y else y:=fun y=>by
  cases neg with
  |true=>rw [if_pos ⟨rfl,hn rfl⟩,if_pos rfl];rfl
  |false=>rw [if_neg (by simp),if_neg (by simp)];rfl
 have ht:ratT neg n d=if neg=true then 45::(dec n++(if d=1 then []else 47::dec d))else dec n++(if d=1 then []else 47::dec d):=by unfold ratT;rw [List.append_assoc,hr]
 have h0:(dec n++(if d=1 then []else 47::dec d)).getD 0 0=(dec n).getD 0 0:=by rw [List.getD_eq_getElem?_getD,List.getElem?_append_left (zcX n),List.getD_eq_getElem?_getD]
 have hneg:decide ((ratT neg n d).getD 0 0=45)=neg:=by
  rw [ht];cases neg with
  |true=>rw [if_pos rfl];rfl
  |false=>rw [if_neg (by simp),h0];exact decide_eq_false decHead
 have hrest:(if neg=true then(ratT neg n d).drop 1 else ratT neg n d)=dec n++(if d=1 then []else 47::dec d):=by
  rw [ht];cases neg with
  |true=>rw [if_pos rfl,if_pos rfl];rfl
  |false=>rw [if_neg (by simp),if_neg (by simp)]
 have hfn:∀ l:List UInt8,(∀ x∈l,(x==47)=false)→∀ r,(l++47::r).findIdx? (· ==47)=some l.length:=by
  intro l;induction l with
  |nil=>intro _ r;simp [List.findIdx?_cons]
  |cons x l ih=>intro h r;rw [List.cons_append,List.findIdx?_cons];simp only [h x (List.mem_cons_self ..),Bool.false_eq_true,if_false,ih (fun y hy=>h y (List.mem_cons_of_mem _ hy)) r];rfl
 unfold zC;simp only [hneg,hrest];by_cases hd:d=1
 ·have:(dec n++(if d=1 then []else 47::dec d)).findIdx? (· ==47)=none:=by
   rw [if_pos hd,List.append_nil,List.findIdx?_eq_none_iff]
   exact decNo n
  simp only [this]
  rw [if_pos hd,if_pos hd,List.append_nil]
  simp [hd]
 ·have:(dec n++(if d=1 then []else 47::dec d)).findIdx? (· ==47)=some (dec n).length:=by
   rw [if_neg hd];exact hfn _ (decNo n) _
  simp only [this]
  rw [if_neg hd,if_neg hd,List.take_left]
  simp [hd]
theorem zfD {n:Nat}(h:(dec n).length≤400):zaC (dec n)=true:=by rw [shortN_iff,zfA];exact⟨by simp;omega,h⟩
theorem zl4 {neg:Bool}{n d:Nat}(hn:neg=true→n≠0)(hd:0<d)(hg:Nat.gcd n d=1)(ln:(dec n).length≤400)(ld:(dec d).length≤400):ratP (ratT neg n d)=some (neg,n,d):=by
 unfold ratP;rw [zir neg n d hn];have hv:valD (if d=1 then [49]else dec d)=d:=by
  split
  ·rename_i h;rw [h];rfl
  ·exact zZ d
 have h1:dec 1=[49]:=rfl;have hs:zaC (if d=1 then [49]else dec d)=true:=by
  split
  ·rw [←h1];exact zfD (by decide)
  ·exact zfD ld
 have hok:zbU neg (dec n) (if d=1 then [49]else dec d) (decide (d≠1))=true:=by
  unfold zbU;rw [zfD ln,hs,hv,zZ];have h2:(neg&&decide (dec n=[48]))=false:=by
   cases hneg:neg with
   |false=>rfl
   |true=>have:=hn hneg;simp only [Bool.true_and,decide_eq_false_iff_not];intro e;exact this (dec_is_zero.1 e)
  have h3:(decide (d≠1)&&(decide ((if d=1 then [49]else dec d)=[48])||decide ((if d=1 then [49]else dec d)=[49])))=false:=by
   by_cases h:d=1
   ·simp [h]
   ·rw [if_neg h];have e1:¬dec d=[48]:=fun e=>by have:=dec_is_zero.1 e;omega
    have e2:¬dec d=[49]:=fun e=>h (zT (e.trans h1.symm));simp [e1,e2]
  rw [h2,h3];simp only [Bool.true_and,Bool.not_false,Bool.and_true,decide_eq_true_eq];exact hg
 rw [if_pos hok];simp only [zZ,hv]
theorem ze5 {n:Nat}(h:(dec n).length≤400):ratP (dec n)=some (false,n,1):=by
 have:=zl4 (neg:=false) (n:=n) (d:=1) (fun h=>by cases h) (by omega) (Nat.gcd_one_right n) h (by decide);have e:ratT false n 1=dec n:=by unfold ratT;simp
 rwa [e]at this
theorem zkI(m:Nat)(d:Nat)(hd:0<d):((resP (mkV false m d)).2≠0→(resP (mkV false m d)).2=2)∧((resP (mkV false m d)).2=0→ratP (resP (mkV false m d)).1=some (false,m / Nat.gcd m d,d / Nat.gcd m d)∧0<d / Nat.gcd m d):=by
 unfold mkV;split
 ·rw [zgu];exact⟨fun _=>rfl,fun h=>by cases h⟩
 ·rename_i h;rw [ze2];have h':¬(400<(dec (m / Nat.gcd m d)).length∨400<(dec (d / Nat.gcd m d)).length):=by simpa [zeG] using h
  have hg:0<Nat.gcd m d:=Nat.gcd_pos_of_pos_right m hd;have hdg:0<d / Nat.gcd m d:=Nat.div_pos (Nat.le_of_dvd hd (Nat.gcd_dvd_right m d)) hg;refine⟨fun h=>absurd rfl h,fun _=>⟨?_,hdg⟩⟩;exact zl4 (fun h=>by cases h) hdg (Nat.coprime_div_gcd_div_gcd hg) (by omega) (by omega)
theorem zqh(a b:Nat):sumS false a false b=(false,a+b):=rfl
theorem ratP_0:ratP [48]=some (false,0,1):=by have:=ze5 (n:=0) (by decide);rwa [zrd]at this
end Go.Proofs

namespace Go.Proofs
open Tryz Go.Ab Go.Cnt Go.Pl
def p01(p:Str):Bool:=(ratP p).isSome&&decide (0≤zaG p [48])&&decide (zaG p [49]≤0)
def zez(w:Nat)(r:List Str):Bool:=decide (r.length=w)&&r.all p01
def matB(m:List (List Str))(n w:Nat):Bool:=decide (m.length=n)&&m.all (zez w)
theorem p01_bool(p:Str):(!(ratP p).isSome||decide (zaG p [48]<0)||decide (0<zaG p [49]))= !p01 p:=by
 unfold p01;rw [Bool.not_and,Bool.not_and];congr 1
 ·congr 1;by_cases h:0≤zaG p [48]
  ·simp [h]
  ·simp [h];omega
 ·by_cases h:zaG p [49]≤0
  ·simp [h]
  ·simp [h];omega
theorem rows_ok(m:List (List Str))(n w:Nat)(hm:m.length≤1000000)(hw:∀ r∈m,r.length≤1000000)(hs:∀ r∈m,∀ s∈r,s.length≤1000000):PCall prog 107 [.fs (zu m) m.length,.int .i64 n,.int .i64 w] (.ret (.bool (matB m n w))):=by
 have hΓ:=zf zm9 (zf zjw zh);refine PCall.walk (rs:=[.tmp 6]) [0,1,2,6,8,10,14,15,16,17,18,24,25,26,27,28,43] [] mixed (hΓ) (zg) call107 func107 rfl ntmps107 rfl (by kernel_rfl) (by simp) (by simp [push_cast,zho]) ?_;simp only [go_sem];refine AXc.introN (fun h0=>?_) (fun h0=>?_)
 ·simp only [go_sem];have:¬m.length=n:=by omega
  simp [matB,this]
 have hn:m.length=n:=by omega
 simp only [go_sem];refine AXs.loop mixed (hΓ) (zg) (fun i:Nat=>[(2,.int .i64 w),(15,.fs (zu m) m.length),(16,.int .i64 m.length),(17,.int .i64 i)]) (fun _=>⟨[],0⟩) (fun i=>i≤m.length∧∀ j,j<i→zez w (nthR m j)=true) (fun i=>m.length - i) 0 (by kernel_rfl) ⟨Nat.zero_le _,fun j hj=>by omega⟩ (Sub.of0 [] rfl rfl ?_ ?_) ?_
 ·simp only [go_sem]
 ·simp only [go_sem]
 rintro i ⟨h1,h2⟩;simp only [go_sem];refine AXc.introP (fun h3=>?_) (fun h3=>?_)
 ·have hi:i<m.length:=by omega
  have at1:=zqq m i hi;have lw:=hw _ (rowR.nth_mem hi);have ls:=hs _ (rowR.nth_mem hi);rw [show rowR.nth m i=nthR m i from rfl]at lw ls;simp (disch:=first|assumption|(push_cast<;>omega)|omega) only [go_sem,at1]
  (repeat refine sdC ?_);refine AXc.introN (fun h4=>?_) (fun h4=>?_)
  ·simp only [go_sem];have hr:zez w (nthR m i)=false:=by unfold zez;rw [decide_eq_false (by omega)];rfl
   unfold matB;rw [rowR.all_f (p:=zez w) hi hr,Bool.and_false]
  have hrw:(nthR m i).length=w:=by omega
  simp (disch:=first|assumption|(push_cast<;>omega)|omega) only [go_sem];refine AXs.loop mixed (hΓ) (zg) (fun k:Nat=>[(2,.int .i64 w),(15,.fs (zu m) m.length),(16,.int .i64 m.length),(17,.int .i64 i),(25,.fs (strs (nthR m i)) (nthR m i).length),(26,.int .i64 (nthR m i).length),(27,.int .i64 k)]) (fun _=>⟨[],0⟩) (fun k=>k≤(nthR m i).length∧∀ q,q<k→p01 ((nthR m i).getD q [])=true) (fun k=>(nthR m i).length - k) 0 (by kernel_rfl) ⟨Nat.zero_le _,fun q hq=>by omega⟩ (Sub.of0 [] rfl rfl ?_ ?_) ?_
  ·simp only [go_sem]
  ·simp only [go_sem]
  rintro k ⟨h5,h6⟩;simp only [go_sem];refine AXc.introP (fun h7=>?_) (fun h7=>?_)
  ·have hk:k<(nthR m i).length:=by omega
   have lsk:=ls _ (zfi hk);simp (disch:=first|assumption|(push_cast<;>omega)|omega) only [go_sem]
   (repeat refine sdC ?_);rw [p01_bool];cases hp:p01 ((nthR m i).getD k [])with
   |false=>
    simp (disch:=first|assumption|(push_cast<;>omega)|omega) only [go_sem];have hr:zez w (nthR m i)=false:=by unfold zez;rw [zrI hk hp,Bool.and_false]
    unfold matB;rw [rowR.all_f (p:=zez w) hi hr,Bool.and_false]
   |true=>
    simp (disch:=first|assumption|(push_cast<;>omega)|omega) only [go_sem];refine zk (k+1) ⟨by omega,fun q hq=>?_⟩ (by omega) (Sub.of0 [] rfl rfl ?_ ?_)
    ·by_cases hqk:q<k
     ·exact h6 q hqk
     ·obtain rfl:q=k:=by omega
      exact hp
    ·simp only [go_sem];simp
    ·simp only [go_sem]
  have hrow:zez w (nthR m i)=true:=by unfold zez;rw [decide_eq_true hrw,zrH fun q hq=>h6 q (by omega)];rfl
  simp only [go_sem];refine AXa.go mixed (hΓ) (zg) (by kernel_rfl) ?_;simp (disch:=first|assumption|(push_cast<;>omega)|omega) only [go_sem];refine zk (i+1) ⟨by omega,fun j hj=>?_⟩ (by omega) (Sub.of0 [] rfl rfl ?_ ?_)
  ·by_cases hji:j<i
   ·exact h2 j hji
   ·obtain rfl:j=i:=by omega
    exact hrow
  ·simp only [go_sem];simp
  ·simp only [go_sem]
 ·have:i=m.length:=by omega
  subst this;simp only [go_sem];refine AXa.go mixed (hΓ) (zg) (by kernel_rfl) ?_;simp only [go_sem];unfold matB;rw [decide_eq_true hn,rowR.all_t (p:=zez w) h2];rfl
end Go.Proofs

namespace Go.Proofs
open Go.Ab Go.Cnt Go.Pl
def Is(a:Str)(x y:Nat):Prop:=0<y∧∃ n d,ratP a=some (false,n,d)∧n*y=x*d
theorem mulr {a b c:Nat}(hc:0<c)(h:a*c=b*c):a=b:=Nat.eq_of_mul_eq_mul_right hc h
theorem Is.eq {a:Str}{x y u v:Nat}(h:Is a x y)(hv:0<v)(e:x*v=u*y):Is a u v:=by
 obtain⟨hy,n,d,hr,he⟩:=h;refine⟨hv,n,d,hr,mulr hy ?_⟩;calc n*v*y=n*y*v:=by ac_rfl
  _=x*v*d:=by rw [he];ac_rfl
  _=u*d*y:=by rw [e];ac_rfl
theorem Is.zero {a:Str}{y:Nat}(h:Is a 0 y):a=[48]:=by
 obtain⟨hy,n,d,hr,he⟩:=h;have:n=0:=by
  rcases Nat.mul_eq_zero.1 (he.trans (Nat.zero_mul d))with h|h
  ·exact h
  ·omega
 subst this;exact zl3 hr
theorem Is.pos {a:Str}{x y:Nat}(h:Is a x y)(hx:0<x):a≠[48]:=by rintro rfl;obtain⟨hy,n,d,hr,he⟩:=h;have e:some (false,0,1)=some (false,n,d):=ratP_0.symm.trans hr;simp only [Option.some.injEq,Prod.mk.injEq,true_and]at e;rw [←e.1, ←e.2]at he;omega
theorem Is.dec {n:Nat}(h:(dec n).length≤400):Is (dec n) n 1:=⟨by omega,n,1,ze5 h,rfl⟩
theorem mkV_is {m d:Nat}(hd:0<d)(h:(resP (mkV false m d)).2=0):Is (resP (mkV false m d)).1 m d:=by obtain⟨h1,h2⟩:=(zkI m d hd).2 h;have g1:m / Nat.gcd m d*Nat.gcd m d=m:=Nat.div_mul_cancel (Nat.gcd_dvd_left m d);have g2:d / Nat.gcd m d*Nat.gcd m d=d:=Nat.div_mul_cancel (Nat.gcd_dvd_right m d);refine⟨hd,_,_,h1,?_⟩;generalize m / Nat.gcd m d=p at*;generalize d / Nat.gcd m d=q at*;generalize Nat.gcd m d=g at*;subst g1 g2;ac_rfl
theorem Is.add {a b:Str}{x y u v:Nat}(ha:Is a x y)(hb:Is b u v)(h:(resP (zaY a b)).2=0):Is (resP (zaY a b)).1 (x*v+u*y) (y*v):=by
 obtain⟨hy,m,d,hr,he⟩:=ha;obtain⟨hv,n,f,hs,hf⟩:=hb;have hd:=(zaI hr).1;have hff:=(zaI hs).1;rw [zhn hr hs,zqh]at h ⊢;refine(mkV_is (Nat.mul_pos hd hff) h).eq (Nat.mul_pos hy hv) ?_;show (m*f+n*d)*(y*v)=(x*v+u*y)*(d*f);rw [Nat.add_mul,Nat.add_mul];congr 1
 ·calc m*f*(y*v)=m*y*(f*v):=by ac_rfl
   _=x*v*(d*f):=by rw [he];ac_rfl
 ·calc n*d*(y*v)=n*v*(d*y):=by ac_rfl
   _=u*y*(d*f):=by rw [hf];ac_rfl
theorem Is.mul {a b:Str}{x y u v:Nat}(ha:Is a x y)(hb:Is b u v)(h:(resP (zaO a b)).2=0):Is (resP (zaO a b)).1 (x*u) (y*v):=by
 obtain⟨hy,m,d,hr,he⟩:=ha;obtain⟨hv,n,f,hs,hf⟩:=hb;have hd:=(zaI hr).1;have hff:=(zaI hs).1;rw [zhl hr hs]at h ⊢;refine(mkV_is (Nat.mul_pos hd hff) h).eq (Nat.mul_pos hy hv) ?_;calc m*n*(y*v)=(m*y)*(n*v):=by ac_rfl
  _=x*u*(d*f):=by rw [he,hf];ac_rfl
theorem Is.one {a:Str}{y:Nat}(h:Is a y y):∃ d,ratP a=some (false,d,d):=by
 obtain⟨hy,n,d,hr,he⟩:=h;have:n=d:=by rw [Nat.mul_comm y d]at he;exact mulr hy he
 subst this;exact⟨_,hr⟩
theorem Is.p01 {a:Str}{x y:Nat}(h:Is a x y)(hxy:x≤y):p01 a=true:=by
 obtain⟨hy,n,d,hr,he⟩:=h;have hd:=(zaI hr).1;have hnd:n≤d:=by
  have h1:n*y≤d*y:=by rw [he,Nat.mul_comm d y];exact Nat.mul_le_mul_right d hxy
  exact Nat.le_of_mul_le_mul_right h1 hy
 have e1:ratP [49]=some (false,1,1):=ze5 (n:=1) (by decide);have c0:0≤zaG a [48]:=by
  rw [zeh hr ratP_0];have:sumS false (n*1) (!false) (0*d)=(false,n):=by simp [sumS]
  rw [this];split
  ·exact Int.le_refl _
  ·rw [if_neg (by simp)];decide
 have c1:zaG a [49]≤0:=by
  rw [zeh hr e1];have:sumS false (n*1) (!false) (1*d)=if d≤n then(false,n - d)else(true,d - n):=by simp [sumS]
  rw [this];by_cases hdn:d≤n
  ·rw [if_pos hdn,if_pos (show n - d=0 by omega)];exact Int.le_refl _
  ·rw [if_neg hdn,if_neg (show ¬d - n=0 by omega),if_pos rfl];decide
 unfold Go.Proofs.p01;rw [hr,decide_eq_true c0,decide_eq_true c1];rfl
def pmul(a b:Str):Str×Int:=resP (zaO a b)
def padd(a b:Str):Str×Int:=resP (zaY a b)
theorem zqy(a b:Str):(pmul a b).1.length≤1000:=zoq a b
theorem padd_len(a b:Str):(padd a b).1.length≤1000:=zor a b
theorem zzs(a b:Str)(la:a.length≤1000000000)(lb:b.length≤1000000000):zpz [.str a,.str b]=some (.ret (.tup [.str (pmul a b).1,.int .i64 (pmul a b).2])):=by have h:=zus a b la lb;obtain⟨s,e,hse⟩:=zhk a b;unfold pmul;rw [hse,ze2, ←hse];exact h
theorem zzu(a b:Str)(la:a.length≤1000000000)(lb:b.length≤1000000000):zpA [.str a,.str b]=some (.ret (.tup [.str (padd a b).1,.int .i64 (padd a b).2])):=by have h:=zuv a b la lb;obtain⟨s,e,hse⟩:=zhm a b;unfold padd;rw [hse,ze2, ←hse];exact h
theorem ze4 {a:Str}{s:Bool}{n d:Nat}(h:ratP a=some (s,n,d)):a=(if s then [45]else [])++dec n++(if d=1 then []else 47::dec d):=by
 unfold ratP at h;split at h
 case isFalse=>cases h
 case isTrue hk=>
  simp only [Option.some.injEq,Prod.mk.injEq]at h
  obtain⟨h1,h2,h3⟩:=h
  simp only [zbU,Bool.and_eq_true,decide_eq_true_eq]at hk
  obtain⟨⟨⟨⟨k1,k2⟩,k3⟩,k4⟩,k5⟩:=hk
  have e1:=zaj (shortN_iff.1 k1).1
  have e2:=zaj (shortN_iff.1 k2).1
  rw [h2]at e1
  rw [h3]at e2
  rw [e1]
  have e3:(if d=1 then []else 47::dec d)=if (zC a).2.2.2=true then 47::(zC a).2.2.1 else []:=by
   rcases zhj a with hf|hf
   ·rw [if_pos hf];rw [hf]at k4;have hd:d≠1:=by rintro rfl;rw [←e2]at k4;simp at k4;exact k4.2 rfl
    rw [if_neg hd,e2]
   ·by_cases hfr:(zC a).2.2.2=true
    ·rw [hfr,hf]at k4;simp at k4
    ·rw [if_neg hfr];have hd:d=1:=by rw [←h3,hf];rfl
     rw [if_pos hd]
  rw [e3, ←h1]
  clear e1 e2 e3 h1 h2 h3 k1 k2 k3 k4 k5
  unfold zC
  simp only
  have hn:decide (a.getD 0 0=45)=true→a=45::a.drop 1:=fun h=>by
   cases a with
   |nil=>revert h;decide
   |cons c l=>simp at h;simp [h]
  generalize hng:decide (a.getD 0 0=45)=neg at hn ⊢
  have hr:a=(if neg then [45]else [])++(if neg=true then a.drop 1 else a):=by
   cases neg with
   |false=>rfl
   |true=>exact hn rfl
  have hh:∀(r:Str) (x:Option Nat),r.findIdx? (· ==47)=x→a=(if neg then [45]else [])++r→a=(if (match x with|some i=>(neg,r.take i,r.drop (i+1),true)|none=>(neg,r,[49],false)).1=true then [45]else [])++(match x with|some i=>(neg,r.take i,r.drop (i+1),true)|none=>(neg,r,[49],false)).2.1++
   (if (match x with|some i=>(neg,r.take i,r.drop (i+1),true)|none=>(neg,r,[49],false)).2.2.2=true then 47::(match x with|some i=>(neg,r.take i,r.drop (i+1),true)|none=>(neg,r,[49],false)).2.2.1 else []):=by
   intro r x hx hr
   cases x with
   |none=>simp only [List.append_nil,Bool.false_eq_true,if_false];exact hr
   |some i=>
    simp only [if_true]
    rw [List.findIdx?_eq_some_iff_getElem]at hx
    obtain⟨hi,h47,_⟩:=hx
    have h47':r[i]=47:=by simpa using h47
    have:r=r.take i++47::r.drop (i+1):=by conv=>lhs;rw [←List.take_append_drop i r,List.drop_eq_getElem_cons hi,h47']
    rw [List.append_assoc, ←this];exact hr
  exact hh _ _ rfl hr
theorem ratP_inj {a b:Str}{s:Bool}{n d:Nat}(ha:ratP a=some (s,n,d))(hb:ratP b=some (s,n,d)):a=b:=by rw [ze4 ha,ze4 hb]
theorem zsF {a:Str}{s:Bool}{n d:Nat}(h:ratP a=some (s,n,d))(hc:a.countP (· ≠47)≤4):d<10 ^ 4:=by
 have ht:=ze4 h;by_cases hd:d=1
 ·subst hd;decide
 ·rw [if_neg hd]at ht;have h1:(dec d).countP (· ≠47)=(dec d).length:=by rw [List.countP_eq_length];intro x hx;have:=List.all_eq_true.1 (zce d) x hx;simp only [decide_eq_true_eq];rintro rfl;revert this;decide
  rw [ht,List.countP_append,List.countP_cons]at hc;exact zbG (k:=4) (by omega)
theorem Is.uniq {a b:Str}{x y:Nat}(ha:Is a x y)(hb:Is b x y):a=b:=by
 obtain⟨hy,n,d,hr,he⟩:=ha;obtain⟨_,m,f,hs,hf⟩:=hb;obtain⟨p1,g1,_⟩:=zaI hr;obtain⟨p2,g2,_⟩:=zaI hs;have e:n*f=m*d:=by
  refine mulr hy ?_;calc n*f*y=n*y*f:=by ac_rfl
   _=x*f*d:=by rw [he];ac_rfl
   _=m*d*y:=by rw [←hf];ac_rfl
 have d1:d ∣ f:=by have:d ∣ n*f:=⟨m,by rw [e];ac_rfl⟩;exact(Nat.Coprime.symm g1).dvd_of_dvd_mul_left this
 have d2:f ∣ d:=by have:f ∣ m*d:=⟨n,by rw [←e];ac_rfl⟩;exact(Nat.Coprime.symm g2).dvd_of_dvd_mul_left this
 have ed:d=f:=Nat.dvd_antisymm d1 d2;subst ed;have en:n=m:=mulr p1 e;subst en;exact ratP_inj hr hs
theorem Is.z {a:Str}{x y:Nat}(h:Is a x y):a=[48]↔x=0:=by
 constructor
 ·intro e;rcases Nat.eq_zero_or_pos x with h0|h0
  ·exact h0
  ·exact absurd e (h.pos h0)
 ·rintro rfl;exact h.zero
theorem Is.low {a:Str}{x y:Nat}(h:Is a x y):∃ n d,ratP a=some (false,n,d)∧0<d∧n≤x∧d≤y:=by
 obtain⟨hy,n,d,hr,he⟩:=h;obtain⟨hd,hg,_⟩:=zaI hr;refine⟨n,d,hr,hd,?_,?_⟩
 ·rcases Nat.eq_zero_or_pos x with h0|h0
  ·subst h0;rw [Nat.zero_mul]at he;rcases Nat.mul_eq_zero.1 he with h|h
   ·omega
   ·omega
  ·have:n ∣ x*d:=⟨y,he.symm⟩;exact Nat.le_of_dvd h0 (Nat.Coprime.dvd_of_dvd_mul_right hg this)
 ·have:d ∣ n*y:=⟨x,by rw [he];exact Nat.mul_comm _ _⟩;exact Nat.le_of_dvd hy ((Nat.Coprime.symm hg).dvd_of_dvd_mul_left this)
theorem mkV_no {m d:Nat}(hm:m<10 ^ 400)(hd:d<10 ^ 400):(resP (mkV false m d)).2=0:=by unfold mkV;have l1:(dec (m / Nat.gcd m d)).length≤400:=za8 (Nat.lt_of_le_of_lt (Nat.div_le_self _ _) hm) (by decide);have l2:(dec (d / Nat.gcd m d)).length≤400:=za8 (Nat.lt_of_le_of_lt (Nat.div_le_self _ _) hd) (by decide);rw [if_neg (by simp only [zmp];omega),ze2]
theorem zoy {a b:Str}{x y u v:Nat}(ha:Is a x y)(hb:Is b u v):((pmul a b).2=0∧Is (pmul a b).1 (x*u) (y*v))∨((pmul a b).2=2∧¬(x*u<10 ^ 400∧y*v<10 ^ 400)):=by
 by_cases h:(pmul a b).2=0
 ·exact .inl ⟨h,ha.mul hb h⟩
 ·right;obtain⟨m,d,hr,hd,h1,h2⟩:=ha.low;obtain⟨n,f,hs,hf,h3,h4⟩:=hb.low;unfold pmul at h ⊢;rw [zhl hr hs]at h ⊢;refine⟨(zkI _ _ (Nat.mul_pos hd hf)).1 h,fun k=>h ?_⟩;exact mkV_no (Nat.lt_of_le_of_lt (Nat.mul_le_mul h1 h3) k.1) (Nat.lt_of_le_of_lt (Nat.mul_le_mul h2 h4) k.2)
theorem padd_is {a b:Str}{x u y:Nat}(ha:Is a x y)(hb:Is b u y):((padd a b).2=0∧Is (padd a b).1 (x+u) y)∨((padd a b).2=2∧¬(x+u<10 ^ 400∧y<10 ^ 400)):=by
 have hy:=ha.1;by_cases h:(padd a b).2=0
 ·refine .inl ⟨h,(ha.add hb h).eq hy ?_⟩;rw [Nat.add_mul,Nat.add_mul];congr 1<;>ac_rfl
 ·right;obtain⟨hy,m,d,hr,he⟩:=ha;obtain⟨_,n,f,hs,hf⟩:=hb;obtain⟨hd,g1,_⟩:=zaI hr;obtain⟨hf0,g2,_⟩:=zaI hs;unfold padd at h ⊢;rw [zhn hr hs,zqh]at h ⊢;refine⟨(zkI _ _ (Nat.mul_pos hd hf0)).1 h,fun k=>h ?_⟩;show (resP (mkV false (m*f+n*d) (d*f))).2=0;unfold mkV;generalize hg:Nat.gcd (m*f+n*d) (d*f)=g;have gd1:g ∣ m*f+n*d:=hg▸Nat.gcd_dvd_left _ _;have gd2:g ∣ d*f:=hg▸Nat.gcd_dvd_right _ _;have hg0:0<g:=Nat.pos_of_dvd_of_pos gd2 (Nat.mul_pos hd hf0);obtain⟨p,hp⟩:=gd1;obtain⟨q,hq⟩:=gd2;have cop:Nat.Coprime p q:=by
   have:=Nat.gcd_mul_left g p q;rw [←hp, ←hq,hg]at this;have:g*1=g*Nat.gcd p q:=by rw [Nat.mul_one];exact this
   exact(Nat.eq_of_mul_eq_mul_left hg0 this).symm
  have e:p*y=(x+u)*q:=by
   have e1:(m*f+n*d)*y=(x+u)*(d*f):=by
    rw [Nat.add_mul,Nat.add_mul];congr 1
    ·calc m*f*y=m*y*f:=by ac_rfl
      _=x*(d*f):=by rw [he];ac_rfl
    ·calc n*d*y=n*y*d:=by ac_rfl
      _=u*(d*f):=by rw [hf];ac_rfl
   rw [hp,hq]at e1;refine Nat.eq_of_mul_eq_mul_left hg0 ?_;calc g*(p*y)=g*p*y:=by ac_rfl
    _=g*((x+u)*q):=by rw [e1];ac_rfl
  have hq0:0<q:=by
   rcases Nat.eq_zero_or_pos q with h0|h0
   ·rw [h0,Nat.mul_zero]at hq;have:=Nat.mul_pos hd hf0;omega
   ·exact h0
  have l1:p≤x+u:=by
   rcases Nat.eq_zero_or_pos (x+u)with h0|h0
   ·rw [h0,Nat.zero_mul]at e;rcases Nat.mul_eq_zero.1 e with h|h<;>omega
   ·exact Nat.le_of_dvd h0 (cop.dvd_of_dvd_mul_right ⟨y,e.symm⟩)
  have l2:q≤y:=by have:q ∣ p*y:=⟨x+u,by rw [e];exact Nat.mul_comm _ _⟩;exact Nat.le_of_dvd hy (cop.symm.dvd_of_dvd_mul_left this)
  rw [hp,hq,Nat.mul_div_cancel_left _ hg0,Nat.mul_div_cancel_left _ hg0];have m1:(dec p).length≤400:=za8 (Nat.lt_of_le_of_lt l1 k.1) (by decide);have m2:(dec q).length≤400:=za8 (Nat.lt_of_le_of_lt l2 k.2) (by decide);rw [if_neg (by simp only [zmp];omega),ze2]
theorem zrg {a b:Str}{x u y:Nat}(ha:Is a x y)(hb:Is b u y):zaG a b=if x=u then 0 else if x<u then -1 else 1:=by
 obtain⟨hy,m,d,hr,he⟩:=ha;obtain⟨_,n,f,hs,hf⟩:=hb;obtain⟨hd,_⟩:=zaI hr;obtain⟨hf0,_⟩:=zaI hs;rw [zeh hr hs];have e1:m*f*y=x*(d*f):=by
  calc m*f*y=m*y*f:=by ac_rfl
   _=x*(d*f):=by rw [he];ac_rfl
 have e2:n*d*y=u*(d*f):=by
  calc n*d*y=n*y*d:=by ac_rfl
   _=u*(d*f):=by rw [hf];ac_rfl
 have hdf:0<d*f:=Nat.mul_pos hd hf0;have s1:(sumS false (m*f) (!false) (n*d))=if n*d≤m*f then(false,m*f - n*d)else(true,n*d - m*f):=by simp [sumS]
 rw [s1];have lt_iff:m*f<n*d↔x<u:=by
  constructor
  ·intro h;have:=Nat.mul_lt_mul_of_pos_right h hy;rw [e1,e2]at this;exact Nat.lt_of_mul_lt_mul_right this
  ·intro h;have:=Nat.mul_lt_mul_of_pos_right h hdf;rw [←e1, ←e2]at this;exact Nat.lt_of_mul_lt_mul_right this
 have eq_iff:m*f=n*d↔x=u:=by
  constructor
  ·intro h;rw [h]at e1;exact mulr hdf (e1.symm.trans e2)
  ·intro h;rw [h]at e1;exact mulr hy (e1.trans e2.symm)
 generalize m*f=A at*;generalize n*d=B at*;by_cases h:B≤A
 ·rw [if_pos h];dsimp only;by_cases h':A=B
  ·rw [if_pos (by omega),if_pos (eq_iff.1 h')]
  ·rw [if_neg (by omega),if_neg (by simp),if_neg fun k=>h' (eq_iff.2 k),if_neg fun k=>by have:=lt_iff.2 k;omega]
 ·rw [if_neg h];dsimp only;rw [if_neg (by omega),if_pos rfl,if_neg fun k=>by have:=eq_iff.2 k;omega,if_pos (lt_iff.1 (by omega))]
theorem p01_is {a:Str}(h:p01 a=true):∃ x y,Is a x y∧x≤y∧ratP a=some (false,x,y):=by
 unfold Go.Proofs.p01 at h;simp only [Bool.and_eq_true,decide_eq_true_eq]at h;obtain⟨⟨h1,h2⟩,h3⟩:=h;cases hr:ratP a with
 |none=>rw [hr]at h1;cases h1
 |some p=>
  obtain⟨s,n,d⟩:=p;obtain⟨hd,hg,_⟩:=zaI hr;have hs:s=false:=by
   cases s with
   |false=>rfl
   |true=>
    exfalso;rw [zeh hr ratP_0]at h2;have e:sumS true (n*1) (!false) (0*d)=(true,n):=by simp [sumS]
    rw [e]at h2;dsimp only at h2;by_cases hn:n=0
    ·subst hn;have:=zl3 hr;subst this;rw [ratP_0]at hr;cases hr
    ·rw [if_neg hn,if_pos rfl]at h2;omega
  subst hs;have i1:Is a n d:=⟨hd,n,d,hr,rfl⟩;have e1:ratP [49]=some (false,1,1):=ze5 (n:=1) (by decide);have i2:Is [49] d d:=⟨hd,1,1,e1,by rw [Nat.one_mul,Nat.mul_one]⟩;rw [zrg i1 i2]at h3;refine⟨n,d,i1,?_,rfl⟩;by_cases h:n=d
  ·omega
  ·rw [if_neg h]at h3;by_cases h':n<d
   ·omega
   ·rw [if_neg h']at h3;omega
def kn(f:Int)(r:Str×Int):Str×Int:=if r.2≠0 then([48],if f=0 then r.2 else f)else(r.1,f)
def tm(f:Int)(a b:Str):Str×Int:=kn f (pmul a b)
def ps(f:Int)(a b:Str):Str×Int:=kn f (padd a b)
theorem kn_len {f:Int}{r:Str×Int}(h:r.1.length≤1000):(kn f r).1.length≤1000:=by
 unfold kn;split
 ·simp
 ·exact h
theorem zf4(f:Int)(a b:Str):(tm f a b).1.length≤1000:=kn_len (zqy a b)
theorem ps_len(f:Int)(a b:Str):(ps f a b).1.length≤1000:=kn_len (padd_len a b)
end Go.Proofs
