/- rat: Mul, Add, Div. -/
import Derived.Test.YthbimeikbkjnkaaGreatDoorQRat4
import Derived.Test.YthbimeikbkjnkaaGreatDoorF2h
import Derived.Test.YthbimeikbkjnkaaGreatDoorVM2
import Derived.Test.YthbimeikbkjnkaaGreatDoorF3c
set_option linter.all false
namespace Go.Proofs
open Go.Ab Go.Pl
theorem zmW {a:List UInt8}(h1:(zF a).1=false)(h2:(zF a).2.2.2=false):(zF a).2.1=a:=by
 unfold zF at*;simp only at*;split at h1
 ·split at h2
  ·cases h2
  ·rename_i e1 _ e2;rw [e1]at e2;cases e2
 ·rename_i e1;simp only [e1];simp only at h1;rw [h1];rfl
theorem ztZ {b:List UInt8}{q:Bool}{f:Nat}(h:ratP b=some (q,0,f)):b=[48]:=by
 unfold ratP at h;split at h
 case isFalse=>cases h
 case isTrue hk=>
  simp only [Option.some.injEq,Prod.mk.injEq]at h
  obtain⟨_,h1,_⟩:=h
  simp only [zbL,Bool.and_eq_true,decide_eq_true_eq]at hk
  obtain⟨⟨⟨⟨k1,k2⟩,k3⟩,k4⟩,k5⟩:=hk
  have e1:=zat (shortN_iff.1 k1).1
  have e2:=zat (shortN_iff.1 k2).1
  rw [h1]at e1 k5
  rw [Nat.gcd_zero_left]at k5
  rw [k5]at e2
  have e3:(zF b).2.1=[48]:=e1.symm
  have e4:(zF b).2.2.1=[49]:=e2.symm
  rw [e3]at k3
  rw [e4]at k4
  have n1:(zF b).1=false:=by cases h:(zF b).1<;>simp_all
  have n2:(zF b).2.2.2=false:=by cases h:(zF b).2.2.2<;>simp_all
  rw [←zmW n1 n2];exact e3
noncomputable def cCpMul:List V→Option PR:=zu (fun p:List UInt8×List UInt8=>[.str p.1,.str p.2,.fn 112 []]) (fun p=>p.1.length≤1000000000∧p.2.length≤1000000000) (fun p=>.ret (zaC p.1 p.2))
theorem zxv:∀ args r,cCpMul args=some r→PCall Tryz.prog 111 args r:=zk fun p h=>zj9 p.1 p.2 h.1 h.2 trivial
theorem zxw(a b:List UInt8)(la:a.length≤1000000000)(lb:b.length≤1000000000):cCpMul [.str a,.str b,.fn 112 []]=some (.ret (zaC a b)):=
 zn (pat:=fun p:List UInt8×List UInt8=>[V.str p.1,.str p.2,.fn 112 []]) (fun x y h=>by simp at h;exact Prod.ext h.1 h.2) (a,b) ⟨la,lb⟩
set_option maxRecDepth 100000 in
theorem zt0(a b:List UInt8)(la:a.length≤1000000000)(lb:b.length≤1000000000):PCall Tryz.prog 69 [.str a,.str b] (.ret (zaC a b)):=by
 have hΓ:=zf zxv zh;have hc:=zxw a b la lb;obtain⟨s,e,hse⟩:=zeh a b;rw [hse]at hc ⊢;refine PCall.walk (rs:=[.tmp 4,.tmp 5]) [0,1,4,5] [] mixed (hΓ) (zg) call69 Tryz.func69 rfl Tryz.ntmps69 rfl (by kernel_rfl) (by simp) (by simp [push_cast]) ?_;simp (disch:=first|assumption|(push_cast<;>omega)|omega) only [go_sem,hc]
noncomputable def znY:List V→Option PR:=zu (fun p:List UInt8×List UInt8=>[.str p.1,.str p.2]) (fun p=>p.1.length≤1000000000∧p.2.length≤1000000000) (fun p=>.ret (zaC p.1 p.2))
theorem zsj:∀ args r,znY args=some r→PCall Tryz.prog 69 args r:=zk fun p h=>zt0 p.1 p.2 h.1 h.2
theorem zsk(a b:List UInt8)(la:a.length≤1000000000)(lb:b.length≤1000000000):znY [.str a,.str b]=some (.ret (zaC a b)):=
 zn (pat:=fun p:List UInt8×List UInt8=>[V.str p.1,.str p.2]) (fun x y h=>by simp at h;exact Prod.ext h.1 h.2) (a,b) ⟨la,lb⟩
end Go.Proofs

namespace Go.Proofs
open Go.Ab Go.Pl
theorem decHead {n:Nat}:(dec n).getD 0 0≠45:=by
 have h:=zcl n;have hp:=zdi n;intro e;have hm:(dec n).getD 0 0∈dec n:=by rw [List.getD_eq_getElem?_getD,List.getElem?_eq_getElem hp];exact List.getElem_mem hp
 have:=zbm (List.all_eq_true.1 h _ hm);rw [e]at this;revert this;decide
theorem decNo(n:Nat):∀ x∈dec n,(x==47)=false:=fun x hx=>by
 have:=zbm (List.all_eq_true.1 (zcl n) x hx);cases e:x==47 with
 |false=>rfl
 |true=>
  have:x=47:=by simpa using e
  subst this;revert this;decide
theorem zhA(neg:Bool)(n d:Nat)(hn:neg=true→n≠0):zF (ratT neg n d)=(neg,dec n,if d=1 then [49]else dec d,decide (d≠1)):=by
 have hr:∀(y:List UInt8),(if neg=true∧n≠0 then [45]else [])++y=if neg=true then 45::y else y:=fun y=>by
  cases neg with
  |true=>rw [if_pos ⟨rfl,hn rfl⟩,if_pos rfl];rfl
  |false=>rw [if_neg (by simp),if_neg (by simp)];rfl
 have ht:ratT neg n d=if neg=true then 45::(dec n++(if d=1 then []else 47::dec d))else dec n++(if d=1 then []else 47::dec d):=by unfold ratT;rw [List.append_assoc,hr]
 have h0:(dec n++(if d=1 then []else 47::dec d)).getD 0 0=(dec n).getD 0 0:=by rw [List.getD_eq_getElem?_getD,List.getElem?_append_left (zdi n),List.getD_eq_getElem?_getD]
 have hneg:decide ((ratT neg n d).getD 0 0=45)=neg:=by
  rw [ht];cases neg with
  |true=>rw [if_pos rfl];rfl
  |false=>rw [if_neg (by simp),h0];exact decide_eq_false decHead
 have hrest:(if neg=true then(ratT neg n d).drop 1 else ratT neg n d)=dec n++(if d=1 then []else 47::dec d):=by
  rw [ht];cases neg with
  |true=>rw [if_pos rfl,if_pos rfl];rfl
  |false=>rw [if_neg (by simp),if_neg (by simp)]
 have hfn:∀ l:List UInt8,(∀ x∈l,(x==47)=false)→∀ r,(l++47::r).findIdx? (· ==47)=some l.length:=by
  intro l;induction l with
  |nil=>intro _ r;simp [List.findIdx?_cons]
  |cons x l ih=>intro h r;rw [List.cons_append,List.findIdx?_cons];simp only [h x (List.mem_cons_self ..),Bool.false_eq_true,if_false,ih (fun y hy=>h y (List.mem_cons_of_mem _ hy)) r];rfl
 unfold zF;simp only [hneg,hrest];by_cases hd:d=1
 ·have:(dec n++(if d=1 then []else 47::dec d)).findIdx? (· ==47)=none:=by
   rw [if_pos hd,List.append_nil,List.findIdx?_eq_none_iff]
   exact decNo n
  simp only [this]
  rw [if_pos hd,if_pos hd,List.append_nil]
  simp [hd]
 ·have:(dec n++(if d=1 then []else 47::dec d)).findIdx? (· ==47)=some (dec n).length:=by
   rw [if_neg hd];exact hfn _ (decNo n) _
  simp only [this]
  rw [if_neg hd,if_neg hd,List.take_left]
  simp [hd]
theorem ze5 {n:Nat}(h:(dec n).length≤400):zaz (dec n)=true:=by rw [shortN_iff,ze1];exact⟨by simp;omega,h⟩
theorem zkQ {neg:Bool}{n d:Nat}(hn:neg=true→n≠0)(hd:0<d)(hg:Nat.gcd n d=1)(ln:(dec n).length≤400)(ld:(dec d).length≤400):ratP (ratT neg n d)=some (neg,n,d):=by
 unfold ratP;rw [zhA neg n d hn];have hv:valD (if d=1 then [49]else dec d)=d:=by
  split
  ·rename_i h;rw [h];rfl
  ·exact zX d
 have h1:dec 1=[49]:=rfl;have hs:zaz (if d=1 then [49]else dec d)=true:=by
  split
  ·rw [←h1];exact ze5 (by decide)
  ·exact ze5 ld
 have hok:zbL neg (dec n) (if d=1 then [49]else dec d) (decide (d≠1))=true:=by
  unfold zbL;rw [ze5 ln,hs,hv,zX];have h2:(neg&&decide (dec n=[48]))=false:=by
   cases hneg:neg with
   |false=>rfl
   |true=>have:=hn hneg;simp only [Bool.true_and,decide_eq_false_iff_not];intro e;exact this (dec_is_zero.1 e)
  have h3:(decide (d≠1)&&(decide ((if d=1 then [49]else dec d)=[48])||decide ((if d=1 then [49]else dec d)=[49])))=false:=by
   by_cases h:d=1
   ·simp [h]
   ·rw [if_neg h];have e1:¬dec d=[48]:=fun e=>by have:=dec_is_zero.1 e;omega
    have e2:¬dec d=[49]:=fun e=>h (zO (e.trans h1.symm));simp [e1,e2]
  rw [h2,h3];simp only [Bool.true_and,Bool.not_false,Bool.and_true,decide_eq_true_eq];exact hg
 rw [if_pos hok];simp only [zX,hv]
theorem zgD {n:Nat}(h:(dec n).length≤400):ratP (dec n)=some (false,n,1):=by
 have:=zkQ (neg:=false) (n:=n) (d:=1) (fun h=>by cases h) (by omega) (Nat.gcd_one_right n) h (by decide);have e:ratT false n 1=dec n:=by unfold ratT;simp
 rwa [e]at this
theorem mkV_read(m:Nat)(d:Nat)(hd:0<d):((resP (mkV false m d)).2≠0→(resP (mkV false m d)).2=2)∧((resP (mkV false m d)).2=0→ratP (resP (mkV false m d)).1=some (false,m / Nat.gcd m d,d / Nat.gcd m d)∧0<d / Nat.gcd m d):=by
 unfold mkV;split
 ·rw [zjf];exact⟨fun _=>rfl,fun h=>by cases h⟩
 ·rename_i h;rw [zje];have h':¬(400<(dec (m / Nat.gcd m d)).length∨400<(dec (d / Nat.gcd m d)).length):=by simpa [zc9] using h
  have hg:0<Nat.gcd m d:=Nat.gcd_pos_of_pos_right m hd;have hdg:0<d / Nat.gcd m d:=Nat.div_pos (Nat.le_of_dvd hd (Nat.gcd_dvd_right m d)) hg;refine⟨fun h=>absurd rfl h,fun _=>⟨?_,hdg⟩⟩;exact zkQ (fun h=>by cases h) hdg (Nat.coprime_div_gcd_div_gcd hg) (by omega) (by omega)
theorem sumS_pos(a b:Nat):sumS false a false b=(false,a+b):=rfl
theorem ratP_0:ratP [48]=some (false,0,1):=by have:=zgD (n:=0) (by decide);rwa [zpe]at this
end Go.Proofs

namespace Go.Proofs
open Go.Ab Go.Cnt Go.Pl
def p01(p:Str):Bool:=(ratP p).isSome&&decide (0≤zbr p [48])&&decide (zbr p [49]≤0)
def zce(w:Nat)(r:List Str):Bool:=decide (r.length=w)&&r.all p01
def matB(m:List (List Str))(n w:Nat):Bool:=decide (m.length=n)&&m.all (zce w)
theorem zoI(p:Str):(!(ratP p).isSome||decide (zbr p [48]<0)||decide (0<zbr p [49]))= !p01 p:=by
 unfold p01;rw [Bool.not_and,Bool.not_and];congr 1
 ·congr 1;by_cases h:0≤zbr p [48]
  ·simp [h]
  ·simp [h];omega
 ·by_cases h:zbr p [49]≤0
  ·simp [h]
  ·simp [h];omega
set_option maxHeartbeats 8000000 in
set_option maxRecDepth 100000 in
theorem rows_ok(m:List (List Str))(n w:Nat)(hm:m.length≤1000000)(hw:∀ r∈m,r.length≤1000000)(hs:∀ r∈m,∀ s∈r,s.length≤1000000):PCall Tryz.prog 107 [.fs (zI m) m.length,.int .i64 n,.int .i64 w] (.ret (.bool (matB m n w))):=by
 have hΓ:=zf zlV (zf zsl zh);refine PCall.walk (rs:=[.tmp 6]) [0,1,2,6,8,10,14,15,16,17,18,24,25,26,27,28,43] [] mixed (hΓ) (zg) call107 Tryz.func107 rfl Tryz.ntmps107 rfl (by kernel_rfl) (by simp) (by simp [push_cast,zc3]) ?_;simp only [go_sem];refine AXc.introN (fun h0=>?_) (fun h0=>?_)
 ·simp only [go_sem];have:¬m.length=n:=by omega
  simp [matB,this]
 have hn:m.length=n:=by omega
 simp only [go_sem];refine AXs.loop mixed (hΓ) (zg) (fun i:Nat=>[(2,.int .i64 w),(15,.fs (zI m) m.length),(16,.int .i64 m.length),(17,.int .i64 i)]) (fun _=>⟨[],0⟩) (fun i=>i≤m.length∧∀ j,j<i→zce w (nthR m j)=true) (fun i=>m.length - i) 0 (by kernel_rfl) ⟨Nat.zero_le _,fun j hj=>by omega⟩ (Sub.of0 [] rfl rfl ?_ ?_) ?_
 ·simp only [go_sem]
 ·simp only [go_sem]
 rintro i ⟨h1,h2⟩;simp only [go_sem];refine AXc.introP (fun h3=>?_) (fun h3=>?_)
 ·have hi:i<m.length:=by omega
  have at1:=zjb m i hi;have lw:=hw _ (rowR.nth_mem hi);have ls:=hs _ (rowR.nth_mem hi);rw [show rowR.nth m i=nthR m i from rfl]at lw ls;simp (disch:=first|assumption|(push_cast<;>omega)|omega) only [go_sem,at1]
  (repeat refine sdC ?_);refine AXc.introN (fun h4=>?_) (fun h4=>?_)
  ·simp only [go_sem];have hr:zce w (nthR m i)=false:=by unfold zce;rw [decide_eq_false (by omega)];rfl
   unfold matB;rw [rowR.all_f (p:=zce w) hi hr,Bool.and_false]
  have hrw:(nthR m i).length=w:=by omega
  simp (disch:=first|assumption|(push_cast<;>omega)|omega) only [go_sem];refine AXs.loop mixed (hΓ) (zg) (fun k:Nat=>[(2,.int .i64 w),(15,.fs (zI m) m.length),(16,.int .i64 m.length),(17,.int .i64 i),(25,.fs (strs (nthR m i)) (nthR m i).length),(26,.int .i64 (nthR m i).length),(27,.int .i64 k)]) (fun _=>⟨[],0⟩) (fun k=>k≤(nthR m i).length∧∀ q,q<k→p01 ((nthR m i).getD q [])=true) (fun k=>(nthR m i).length - k) 0 (by kernel_rfl) ⟨Nat.zero_le _,fun q hq=>by omega⟩ (Sub.of0 [] rfl rfl ?_ ?_) ?_
  ·simp only [go_sem]
  ·simp only [go_sem]
  rintro k ⟨h5,h6⟩;simp only [go_sem];refine AXc.introP (fun h7=>?_) (fun h7=>?_)
  ·have hk:k<(nthR m i).length:=by omega
   have lsk:=ls _ (zcx hk);simp (disch:=first|assumption|(push_cast<;>omega)|omega) only [go_sem]
   (repeat refine sdC ?_);rw [zoI];cases hp:p01 ((nthR m i).getD k [])with
   |false=>
    simp (disch:=first|assumption|(push_cast<;>omega)|omega) only [go_sem];have hr:zce w (nthR m i)=false:=by unfold zce;rw [zfH hk hp,Bool.and_false]
    unfold matB;rw [rowR.all_f (p:=zce w) hi hr,Bool.and_false]
   |true=>
    simp (disch:=first|assumption|(push_cast<;>omega)|omega) only [go_sem];refine zo (k+1) ⟨by omega,fun q hq=>?_⟩ (by omega) (Sub.of0 [] rfl rfl ?_ ?_)
    ·by_cases hqk:q<k
     ·exact h6 q hqk
     ·obtain rfl:q=k:=by omega
      exact hp
    ·simp only [go_sem];simp
    ·simp only [go_sem]
  have hrow:zce w (nthR m i)=true:=by unfold zce;rw [decide_eq_true hrw,zfG fun q hq=>h6 q (by omega)];rfl
  simp only [go_sem];refine AXa.go mixed (hΓ) (zg) (by kernel_rfl) ?_;simp (disch:=first|assumption|(push_cast<;>omega)|omega) only [go_sem];refine zo (i+1) ⟨by omega,fun j hj=>?_⟩ (by omega) (Sub.of0 [] rfl rfl ?_ ?_)
  ·by_cases hji:j<i
   ·exact h2 j hji
   ·obtain rfl:j=i:=by omega
    exact hrow
  ·simp only [go_sem];simp
  ·simp only [go_sem]
 ·have:i=m.length:=by omega
  subst this;simp only [go_sem];refine AXa.go mixed (hΓ) (zg) (by kernel_rfl) ?_;simp only [go_sem];unfold matB;rw [decide_eq_true hn,rowR.all_t (p:=zce w) h2];rfl
set_option maxHeartbeats 8000000 in
set_option maxRecDepth 100000 in
theorem zuO(m:List (List Str))(n w:Nat)(hm:m.length≤1000000)(hw:∀ r∈m,r.length≤1000000)(hs:∀ r∈m,∀ s∈r,s.length≤1000000):PCall Tryz.prog 48 [.fs (zI m) m.length,.int .i64 n,.int .i64 w] (.ret (.bool (matB m n w))):=by
 have hΓ:=zf zn0 (zf zwX zh);refine PCall.walk (rs:=[.tmp 6]) [0,1,2,6,7,8,12,16,25,32,65] [] mixed (hΓ) (zg) call48 Tryz.func48 rfl Tryz.ntmps48 rfl (by kernel_rfl) (by simp) (by simp [push_cast,zc3]) ?_;simp only [go_sem];refine AXc.introN (fun h0=>?_) (fun h0=>?_)
 ·simp only [go_sem];have:¬m.length=n:=by omega
  simp [matB,this]
 have hn:m.length=n:=by omega
 simp only [go_sem];refine AXs.loop mixed (hΓ) (zg) (fun i:Nat=>[(0,.fs (zI m) m.length),(2,.int .i64 w),(7,.int .i64 i)]) (fun _=>⟨[],0⟩) (fun i=>i≤m.length∧∀ j,j<i→zce w (nthR m j)=true) (fun i=>m.length - i) 0 (by kernel_rfl) ⟨Nat.zero_le _,fun j hj=>by omega⟩ (Sub.of0 [] rfl rfl ?_ ?_) ?_
 ·simp only [go_sem]
 ·simp only [go_sem]
 rintro i ⟨h1,h2⟩;simp only [go_sem];refine AXc.introP (fun h3=>?_) (fun h3=>?_)
 ·have hi:i<m.length:=by omega
  have at1:=zjb m i hi;have lw:=hw _ (rowR.nth_mem hi);have ls:=hs _ (rowR.nth_mem hi);rw [show rowR.nth m i=nthR m i from rfl]at lw ls;simp (disch:=first|assumption|(push_cast<;>omega)|omega) only [go_sem,at1]
  (repeat refine sdC ?_);refine AXc.introN (fun h4=>?_) (fun h4=>?_)
  ·simp only [go_sem];have hr:zce w (nthR m i)=false:=by unfold zce;rw [decide_eq_false (by omega)];rfl
   unfold matB;rw [rowR.all_f (p:=zce w) hi hr,Bool.and_false]
  have hrw:(nthR m i).length=w:=by omega
  simp (disch:=first|assumption|(push_cast<;>omega)|omega) only [go_sem];refine AXs.loop mixed (hΓ) (zg) (fun k:Nat=>[(0,.fs (zI m) m.length),(2,.int .i64 w),(7,.int .i64 i),(8,.int .i64 k)]) (fun _=>⟨[],0⟩) (fun k=>k≤(nthR m i).length∧∀ q,q<k→p01 ((nthR m i).getD q [])=true) (fun k=>(nthR m i).length - k) 0 (by kernel_rfl) ⟨Nat.zero_le _,fun q hq=>by omega⟩ (Sub.of0 [] rfl rfl ?_ ?_) ?_
  ·simp only [go_sem]
  ·simp only [go_sem]
  rintro k ⟨h5,h6⟩;simp (disch:=first|assumption|(push_cast<;>omega)|omega) only [go_sem,at1]
  (repeat refine sdC ?_);refine AXc.introP (fun h7=>?_) (fun h7=>?_)
  ·have hk:k<(nthR m i).length:=by omega
   have lsk:=ls _ (zcx hk);simp (disch:=first|assumption|(push_cast<;>omega)|omega) only [go_sem,at1]
   (repeat refine sdC ?_);rw [zoI];cases hp:p01 ((nthR m i).getD k [])with
   |false=>
    simp (disch:=first|assumption|(push_cast<;>omega)|omega) only [go_sem];have hr:zce w (nthR m i)=false:=by unfold zce;rw [zfH hk hp,Bool.and_false]
    unfold matB;rw [rowR.all_f (p:=zce w) hi hr,Bool.and_false]
   |true=>
    simp (disch:=first|assumption|(push_cast<;>omega)|omega) only [go_sem];refine zo (k+1) ⟨by omega,fun q hq=>?_⟩ (by omega) (Sub.of0 [] rfl rfl ?_ ?_)
    ·by_cases hqk:q<k
     ·exact h6 q hqk
     ·obtain rfl:q=k:=by omega
      exact hp
    ·simp only [go_sem];simp
    ·simp only [go_sem]
  have hrow:zce w (nthR m i)=true:=by unfold zce;rw [decide_eq_true hrw,zfG fun q hq=>h6 q (by omega)];rfl
  simp only [go_sem];refine AXa.go mixed (hΓ) (zg) (by kernel_rfl) ?_;simp (disch:=first|assumption|(push_cast<;>omega)|omega) only [go_sem];refine zo (i+1) ⟨by omega,fun j hj=>?_⟩ (by omega) (Sub.of0 [] rfl rfl ?_ ?_)
  ·by_cases hji:j<i
   ·exact h2 j hji
   ·obtain rfl:j=i:=by omega
    exact hrow
  ·simp only [go_sem];simp
  ·simp only [go_sem]
 ·have:i=m.length:=by omega
  subst this;simp only [go_sem];refine AXa.go mixed (hΓ) (zg) (by kernel_rfl) ?_;simp only [go_sem];unfold matB;rw [decide_eq_true hn,rowR.all_t (p:=zce w) h2];rfl
end Go.Proofs

namespace Go.Proofs
open Go.Ab Go.Cnt Go.Pl
def Is(a:Str)(x y:Nat):Prop:=0<y∧∃ n d,ratP a=some (false,n,d)∧n*y=x*d
theorem mulr {a b c:Nat}(hc:0<c)(h:a*c=b*c):a=b:=Nat.eq_of_mul_eq_mul_right hc h
theorem Is.eq {a:Str}{x y u v:Nat}(h:Is a x y)(hv:0<v)(e:x*v=u*y):Is a u v:=by
 obtain⟨hy,n,d,hr,he⟩:=h;refine⟨hv,n,d,hr,mulr hy ?_⟩;calc n*v*y=n*y*v:=by ac_rfl
  _=x*v*d:=by rw [he];ac_rfl
  _=u*d*y:=by rw [e];ac_rfl
theorem Is.zero {a:Str}{y:Nat}(h:Is a 0 y):a=[48]:=by
 obtain⟨hy,n,d,hr,he⟩:=h;have:n=0:=by
  rcases Nat.mul_eq_zero.1 (he.trans (Nat.zero_mul d))with h|h
  ·exact h
  ·omega
 subst this;exact ztZ hr
theorem Is.pos {a:Str}{x y:Nat}(h:Is a x y)(hx:0<x):a≠[48]:=by rintro rfl;obtain⟨hy,n,d,hr,he⟩:=h;have e:some (false,0,1)=some (false,n,d):=ratP_0.symm.trans hr;simp only [Option.some.injEq,Prod.mk.injEq,true_and]at e;rw [←e.1, ←e.2]at he;omega
theorem Is.dec {n:Nat}(h:(dec n).length≤400):Is (dec n) n 1:=⟨by omega,n,1,zgD h,rfl⟩
theorem mkV_is {m d:Nat}(hd:0<d)(h:(resP (mkV false m d)).2=0):Is (resP (mkV false m d)).1 m d:=by obtain⟨h1,h2⟩:=(mkV_read m d hd).2 h;have g1:m / Nat.gcd m d*Nat.gcd m d=m:=Nat.div_mul_cancel (Nat.gcd_dvd_left m d);have g2:d / Nat.gcd m d*Nat.gcd m d=d:=Nat.div_mul_cancel (Nat.gcd_dvd_right m d);refine⟨hd,_,_,h1,?_⟩;generalize m / Nat.gcd m d=p at*;generalize d / Nat.gcd m d=q at*;generalize Nat.gcd m d=g at*;subst g1 g2;ac_rfl
theorem Is.add {a b:Str}{x y u v:Nat}(ha:Is a x y)(hb:Is b u v)(h:(resP (zgF a b)).2=0):Is (resP (zgF a b)).1 (x*v+u*y) (y*v):=by
 obtain⟨hy,m,d,hr,he⟩:=ha;obtain⟨hv,n,f,hs,hf⟩:=hb;have hd:=(zcf hr).1;have hff:=(zcf hs).1;rw [zt2 hr hs,sumS_pos]at h ⊢;refine(mkV_is (Nat.mul_pos hd hff) h).eq (Nat.mul_pos hy hv) ?_;show (m*f+n*d)*(y*v)=(x*v+u*y)*(d*f);rw [Nat.add_mul,Nat.add_mul];congr 1
 ·calc m*f*(y*v)=m*y*(f*v):=by ac_rfl
   _=x*v*(d*f):=by rw [he];ac_rfl
 ·calc n*d*(y*v)=n*v*(d*y):=by ac_rfl
   _=u*y*(d*f):=by rw [hf];ac_rfl
theorem Is.mul {a b:Str}{x y u v:Nat}(ha:Is a x y)(hb:Is b u v)(h:(resP (zaC a b)).2=0):Is (resP (zaC a b)).1 (x*u) (y*v):=by
 obtain⟨hy,m,d,hr,he⟩:=ha;obtain⟨hv,n,f,hs,hf⟩:=hb;have hd:=(zcf hr).1;have hff:=(zcf hs).1;rw [zgE hr hs]at h ⊢;refine(mkV_is (Nat.mul_pos hd hff) h).eq (Nat.mul_pos hy hv) ?_;calc m*n*(y*v)=(m*y)*(n*v):=by ac_rfl
  _=x*u*(d*f):=by rw [he,hf];ac_rfl
theorem Is.one {a:Str}{y:Nat}(h:Is a y y):∃ d,ratP a=some (false,d,d):=by
 obtain⟨hy,n,d,hr,he⟩:=h;have:n=d:=by rw [Nat.mul_comm y d]at he;exact mulr hy he
 subst this;exact⟨_,hr⟩
theorem Is.p01 {a:Str}{x y:Nat}(h:Is a x y)(hxy:x≤y):p01 a=true:=by
 obtain⟨hy,n,d,hr,he⟩:=h;have hd:=(zcf hr).1;have hnd:n≤d:=by
  have h1:n*y≤d*y:=by rw [he,Nat.mul_comm d y];exact Nat.mul_le_mul_right d hxy
  exact Nat.le_of_mul_le_mul_right h1 hy
 have e1:ratP [49]=some (false,1,1):=zgD (n:=1) (by decide);have c0:0≤zbr a [48]:=by
  rw [zf1 hr ratP_0];have:sumS false (n*1) (!false) (0*d)=(false,n):=by simp [sumS]
  rw [this];split
  ·exact Int.le_refl _
  ·rw [if_neg (by simp)];decide
 have c1:zbr a [49]≤0:=by
  rw [zf1 hr e1];have:sumS false (n*1) (!false) (1*d)=if d≤n then(false,n - d)else(true,d - n):=by simp [sumS]
  rw [this];by_cases hdn:d≤n
  ·rw [if_pos hdn,if_pos (show n - d=0 by omega)];exact Int.le_refl _
  ·rw [if_neg hdn,if_neg (show ¬d - n=0 by omega),if_pos rfl];decide
 unfold Go.Proofs.p01;rw [hr,decide_eq_true c0,decide_eq_true c1];rfl
def pmul(a b:Str):Str×Int:=resP (zaC a b)
def padd(a b:Str):Str×Int:=resP (zgF a b)
theorem zjl(a b:Str):(pmul a b).1.length≤1000:=zmY a b
theorem zwI(a b:Str)(la:a.length≤1000000000)(lb:b.length≤1000000000):znY [.str a,.str b]=some (.ret (.tup [.str (pmul a b).1,.int .i64 (pmul a b).2])):=by have h:=zsk a b la lb;obtain⟨s,e,hse⟩:=zeh a b;unfold pmul;rw [hse,zje, ←hse];exact h
theorem cR3Mul_p(a b:Str)(la:a.length≤1000000000)(lb:b.length≤1000000000):zwW [.str a,.str b]=some (.ret (.tup [.str (pmul a b).1,.int .i64 (pmul a b).2])):=by have h:=zwV a b la lb;obtain⟨s,e,hse⟩:=zeh a b;unfold pmul;rw [hse,zje, ←hse];exact h
theorem Is.z {a:Str}{x y:Nat}(h:Is a x y):a=[48]↔x=0:=by
 constructor
 ·intro e;rcases Nat.eq_zero_or_pos x with h0|h0
  ·exact h0
  ·exact absurd e (h.pos h0)
 ·rintro rfl;exact h.zero
theorem Is.low {a:Str}{x y:Nat}(h:Is a x y):∃ n d,ratP a=some (false,n,d)∧0<d∧n≤x∧d≤y:=by
 obtain⟨hy,n,d,hr,he⟩:=h;obtain⟨hd,hg,_⟩:=zcf hr;refine⟨n,d,hr,hd,?_,?_⟩
 ·rcases Nat.eq_zero_or_pos x with h0|h0
  ·subst h0;rw [Nat.zero_mul]at he;rcases Nat.mul_eq_zero.1 he with h|h
   ·omega
   ·omega
  ·have:n ∣ x*d:=⟨y,he.symm⟩;exact Nat.le_of_dvd h0 (Nat.Coprime.dvd_of_dvd_mul_right hg this)
 ·have:d ∣ n*y:=⟨x,by rw [he];exact Nat.mul_comm _ _⟩;exact Nat.le_of_dvd hy ((Nat.Coprime.symm hg).dvd_of_dvd_mul_left this)
def kn(f:Int)(r:Str×Int):Str×Int:=if r.2≠0 then([48],if f=0 then r.2 else f)else(r.1,f)
def tm(f:Int)(a b:Str):Str×Int:=kn f (pmul a b)
def ps(f:Int)(a b:Str):Str×Int:=kn f (padd a b)
theorem kn_len {f:Int}{r:Str×Int}(h:r.1.length≤1000):(kn f r).1.length≤1000:=by
 unfold kn;split
 ·simp
 ·exact h
theorem tm_len(f:Int)(a b:Str):(tm f a b).1.length≤1000:=kn_len (zjl a b)
end Go.Proofs
