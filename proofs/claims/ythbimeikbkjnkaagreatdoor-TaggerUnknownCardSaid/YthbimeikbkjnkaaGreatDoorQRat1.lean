/- rat: must, quotient, plus, parse, Valid, Cmp. -/
import Derived.Test.YthbimeikbkjnkaaGreatDoorQFmt
import Derived.Test.YthbimeikbkjnkaaGreatDoorPlPad
import Derived.Test.YthbimeikbkjnkaaGreatDoorQNat5
set_option linter.all false
namespace Go.Proofs
open Go.Ab Go.Pl
noncomputable def cNMul:List V→Option PR:=zG (fun p:Nat×Nat=>[.str (dec p.1),.str (dec p.2)]) (fun p=>(dec p.1).length≤1000∧(dec p.2).length≤1000∧(dec (p.1*p.2)).length≤1000) (fun p=>.ret (.tup [.str (dec (p.1*p.2)),.int .i64 0]))
theorem zoU:∀ args r,cNMul args=some r→PCall Tryz.prog 115 args r:=zk fun p h=>by have:=ztV zj7 (dec p.1) (dec p.2);rwa [mulV_dec h.1 h.2.1 h.2.2]at this
@[go_sem] theorem cNMul_eq(m n:Nat)(hm:(dec m).length≤1000)(hn:(dec n).length≤1000)(h:(dec (m*n)).length≤1000):cNMul [.str (dec m),.str (dec n)]=some (.ret (.tup [.str (dec (m*n)),.int .i64 0])):=
 zn (pat:=fun p:Nat×Nat=>[V.str (dec p.1),.str (dec p.2)]) (fun x y h=>by simp at h;exact Prod.ext (zat h.1) (zat h.2)) (m,n) ⟨hm,hn,h⟩
noncomputable def cNAdd:List V→Option PR:=zG (fun p:Nat×Nat=>[.str (dec p.1),.str (dec p.2)]) (fun p=>(dec p.1).length≤1000∧(dec p.2).length≤1000∧(dec (p.1+p.2)).length≤1000) (fun p=>.ret (.tup [.str (dec (p.1+p.2)),.int .i64 0]))
theorem cNAdd_ok:∀ args r,cNAdd args=some r→PCall Tryz.prog 156 args r:=zk fun p h=>by have:=ztZ zj7 (dec p.1) (dec p.2);rwa [addV_dec h.1 h.2.1 h.2.2]at this
@[go_sem] theorem cNAdd_eq(m n:Nat)(hm:(dec m).length≤1000)(hn:(dec n).length≤1000)(h:(dec (m+n)).length≤1000):cNAdd [.str (dec m),.str (dec n)]=some (.ret (.tup [.str (dec (m+n)),.int .i64 0])):=
 zn (pat:=fun p:Nat×Nat=>[V.str (dec p.1),.str (dec p.2)]) (fun x y h=>by simp at h;exact Prod.ext (zat h.1) (zat h.2)) (m,n) ⟨hm,hn,h⟩
noncomputable def cNSub:List V→Option PR:=zG (fun p:Nat×Nat=>[.str (dec p.1),.str (dec p.2)]) (fun p=>(dec p.1).length≤1000∧(dec p.2).length≤1000∧p.2≤p.1) (fun p=>.ret (.tup [.str (dec (p.1 - p.2)),.int .i64 0]))
theorem cNSub_ok:∀ args r,cNSub args=some r→PCall Tryz.prog 158 args r:=zk fun p h=>by have:=ztU zj7 (dec p.1) (dec p.2);rwa [subV_dec h.1 h.2.1 h.2.2]at this
@[go_sem] theorem cNSub_eq(m n:Nat)(hm:(dec m).length≤1000)(hn:(dec n).length≤1000)(h:n≤m):cNSub [.str (dec m),.str (dec n)]=some (.ret (.tup [.str (dec (m - n)),.int .i64 0])):=
 zn (pat:=fun p:Nat×Nat=>[V.str (dec p.1),.str (dec p.2)]) (fun x y h=>by simp at h;exact Prod.ext (zat h.1) (zat h.2)) (m,n) ⟨hm,hn,h⟩
noncomputable def cNCmp:List V→Option PR:=zG (fun p:Nat×Nat=>[.str (dec p.1),.str (dec p.2)]) (fun p=>(dec p.1).length≤1000∧(dec p.2).length≤1000) (fun p=>.ret (.int .i64 (cmpI p.1 p.2)))
theorem cNCmp_ok:∀ args r,cNCmp args=some r→PCall Tryz.prog 157 args r:=zk fun p h=>by have:=ztY (dec p.1) (dec p.2);rwa [cmpV_dec h.1 h.2]at this
@[go_sem] theorem cNCmp_eq(m n:Nat)(hm:(dec m).length≤1000)(hn:(dec n).length≤1000):cNCmp [.str (dec m),.str (dec n)]=some (.ret (.int .i64 (cmpI m n))):=
 zn (pat:=fun p:Nat×Nat=>[V.str (dec p.1),.str (dec p.2)]) (fun x y h=>by simp at h;exact Prod.ext (zat h.1) (zat h.2)) (m,n) ⟨hm,hn⟩
noncomputable def cNDiv:List V→Option PR:=zG (fun p:Nat×Nat=>[.str (dec p.1),.str (dec p.2)]) (fun p=>(dec p.1).length≤1000∧(dec p.2).length≤1000∧0<p.2) (fun p=>.ret (.tup [.str (dec (p.1 / p.2)),.str (dec (p.1 % p.2)),.int .i64 0]))
theorem cNDiv_ok:∀ args r,cNDiv args=some r→PCall Tryz.prog 181 args r:=zk fun p h=>by have:=ztX (dec p.1) (dec p.2);rwa [divV_dec h.1 h.2.1 h.2.2]at this
@[go_sem] theorem cNDiv_eq(m n:Nat)(hm:(dec m).length≤1000)(hn:(dec n).length≤1000)(h0:0<n):cNDiv [.str (dec m),.str (dec n)]=some (.ret (.tup [.str (dec (m / n)),.str (dec (m % n)),.int .i64 0])):=
 zn (pat:=fun p:Nat×Nat=>[V.str (dec p.1),.str (dec p.2)]) (fun x y h=>by simp at h;exact Prod.ext (zat h.1) (zat h.2)) (m,n) ⟨hm,hn,h0⟩
noncomputable def cNGcd:List V→Option PR:=zG (fun p:List UInt8×List UInt8=>[.str p.1,.str p.2]) (fun _=>True) (fun p=>.ret (gcdV p.1 p.2))
theorem zoV:∀ args r,cNGcd args=some r→PCall Tryz.prog 148 args r:=zk fun p _=>ztW p.1 p.2
theorem zc5 {a b:List UInt8}(ha:zN a=true)(hb:zN b=true):cNGcd [.str a,.str b]=some (.ret (.tup [.str (dec (Nat.gcd (valD a) (valD b))),.int .i64 0])):=by have:cNGcd [.str a,.str b]=some (.ret (gcdV a b)):=zn (fun p q h=>by simp at h;exact Prod.ext h.1 h.2) (a,b) trivial;rw [this,gcdV,if_pos ⟨ha,hb⟩]
@[go_sem] theorem cNGcd_dec(x y:Nat)(hx:(dec x).length≤1000)(hy:(dec y).length≤1000):cNGcd [.str (dec x),.str (dec y)]=some (.ret (.tup [.str (dec (Nat.gcd x y)),.int .i64 0])):=by rw [zc5 (zak hx) (zak hy),zaw,zaw]
theorem must_ok(s:List UInt8):PCall Tryz.prog 114 [.str s,.int .i64 0] (.ret (.str s)):=by refine PCall.walk (rs:=[.tmp 4]) [0,1,4,6] [] mixed (zh) (zf) call114 Tryz.func114 rfl Tryz.ntmps114 rfl (by kernel_rfl) (by simp) (by simp [push_cast]) ?_;simp only [go_sem]
noncomputable def cMust:List V→Option PR:=zG (fun s:List UInt8=>[.str s,.int .i64 0]) (fun _=>True) (fun s=>.ret (.str s))
theorem zey:∀ args r,cMust args=some r→PCall Tryz.prog 114 args r:=zk fun s _=>must_ok s
@[go_sem] theorem cMust_eq(s:List UInt8):cMust [.str s,.int .i64 0]=some (.ret (.str s)):=zn (pat:=fun s:List UInt8=>[V.str s,.int .i64 0]) (fun x y h=>by simpa using h) s trivial
theorem zmv(m n:Nat)(hm:(dec m).length≤1000)(hn:(dec n).length≤1000)(h0:0<n):PCall Tryz.prog 149 [.str (dec m),.str (dec n)] (.ret (.str (dec (m / n)))):=by
 refine PCall.walk (rs:=[.tmp 4]) [0,1,4,5,7] [] mixed (zg cNDiv_ok (zg zey zh)) (zf) call149 Tryz.func149 rfl Tryz.ntmps149 rfl (by kernel_rfl) (by simp) (by simp [push_cast]) ?_;simp (disch:=first|assumption|(push_cast<;>omega)|omega) only [go_sem]
noncomputable def cQuot:List V→Option PR:=zG (fun p:Nat×Nat=>[.str (dec p.1),.str (dec p.2)]) (fun p=>(dec p.1).length≤1000∧(dec p.2).length≤1000∧0<p.2) (fun p=>.ret (.str (dec (p.1 / p.2))))
theorem cQuot_ok:∀ args r,cQuot args=some r→PCall Tryz.prog 149 args r:=zk fun p h=>zmv p.1 p.2 h.1 h.2.1 h.2.2
@[go_sem] theorem cQuot_eq(m n:Nat)(hm:(dec m).length≤1000)(hn:(dec n).length≤1000)(h0:0<n):cQuot [.str (dec m),.str (dec n)]=some (.ret (.str (dec (m / n)))):=
 zn (pat:=fun p:Nat×Nat=>[V.str (dec p.1),.str (dec p.2)]) (fun x y h=>by simp at h;exact Prod.ext (zat h.1) (zat h.2)) (m,n) ⟨hm,hn,h0⟩
set_option maxHeartbeats 4000000 in
theorem rplus_ok(p:Bool)(m:Nat)(q:Bool)(n:Nat)(hm:(dec m).length≤800)(hn:(dec n).length≤800):PCall Tryz.prog 117 [.bool p,.str (dec m),.bool q,.str (dec n)] (.ret (.tup [.bool (sumS p m q n).1,.str (dec (sumS p m q n).2)])):=by
 have hΓ:=zg cNAdd_ok (zg cNCmp_ok (zg cNSub_ok (zg zey zh)));refine PCall.walk (rs:=[.tmp 8,.tmp 9]) [0,1,2,3,8,9,12,23] [] mixed (hΓ) (zf) call117 Tryz.func117 rfl Tryz.ntmps117 rfl (by kernel_rfl) (by simp) (by simp [push_cast]) ?_;have ha:=zgF hm hn;by_cases hpq:p=q
 ·subst hpq;simp (disch:=first|assumption|(push_cast<;>omega)|omega) only [go_sem,sumS,decide_true,beq_self_eq_true]
 ·have hpq':(p==q)=false:=by simpa using hpq
  simp (disch:=first|assumption|(push_cast<;>omega)|omega) only [go_sem,hpq'];refine AXc.introP (fun h1=>?_) (fun h1=>?_)
  ·have h2:¬n≤m:=by
    rw [zbI]at h1
    split at h1
    ·omega
    ·split at h1<;>omega
   simp (disch:=first|assumption|(push_cast<;>omega)|omega) only [go_sem,sumS,hpq,h2]
  ·have h2:n≤m:=by
    rw [zbI]at h1
    split at h1
    ·omega
    ·omega
   simp (disch:=first|assumption|(push_cast<;>omega)|omega) only [go_sem,sumS,hpq,h2]
noncomputable def cNPlus:List V→Option PR:=zG (fun p:Bool×Nat×Bool×Nat=>[.bool p.1,.str (dec p.2.1),.bool p.2.2.1,.str (dec p.2.2.2)]) (fun p=>(dec p.2.1).length≤800∧(dec p.2.2.2).length≤800) (fun p=>.ret (.tup [.bool (sumS p.1 p.2.1 p.2.2.1 p.2.2.2).1,.str (dec (sumS p.1 p.2.1 p.2.2.1 p.2.2.2).2)]))
theorem zlw:∀ args r,cNPlus args=some r→PCall Tryz.prog 117 args r:=zk fun p h=>rplus_ok p.1 p.2.1 p.2.2.1 p.2.2.2 h.1 h.2
@[go_sem] theorem cNPlus_eq(p:Bool)(m:Nat)(q:Bool)(n:Nat)(hm:(dec m).length≤800)(hn:(dec n).length≤800):cNPlus [.bool p,.str (dec m),.bool q,.str (dec n)]=some (.ret (.tup [.bool (sumS p m q n).1,.str (dec (sumS p m q n).2)])):=
 zn (pat:=fun p:Bool×Nat×Bool×Nat=>[V.bool p.1,.str (dec p.2.1),.bool p.2.2.1,.str (dec p.2.2.2)]) (fun x y h=>by obtain⟨x1,x2,x3,x4⟩:=x;obtain⟨y1,y2,y3,y4⟩:=y;simp at h;obtain⟨h1,h2,h3,h4⟩:=h;rw [h1,zat h2,h3,zat h4]) (p,m,q,n) ⟨hm,hn⟩
end Go.Proofs

namespace Go.Proofs
open Go.Ab Go.Pl
def zdJ(a:List UInt8):V:=match ratP a with
 |some (s,n,d)=>.tup [.bool s,.str (dec n),.str (dec d),.bool true]
 |none=>.tup [.bool false,.str [],.str [],.bool false]
def partsQ(neg:Bool)(n d:List UInt8)(fr:Bool):V:=if zbQ neg n d fr=true then .tup [.bool neg,.str n,.str d,.bool true]else .tup [.bool false,.str [],.str [],.bool false]
theorem zeg(a:List UInt8):zdJ a=partsQ (zF a).1 (zF a).2.1 (zF a).2.2.1 (zF a).2.2.2:=by
 unfold zdJ partsQ ratP;split
 ·rename_i h;split at h
  ·rename_i hk;simp only [Option.some.injEq,Prod.mk.injEq]at h;obtain⟨rfl,rfl,rfl⟩:=h;rw [if_pos hk];simp only [zbQ,Bool.and_eq_true]at hk;rw [zaj (shortN_iff.1 hk.1.1.1.1).1,zaj (shortN_iff.1 hk.1.1.1.2).1]
  ·cases h
 ·rename_i h;split at h
  ·cases h
  ·rename_i hk;rw [if_neg hk]
theorem ziF {neg:Bool}{n d:List UInt8}{fr:Bool}(h:¬zaW n=true):zbQ neg n d fr=false:=by rw [Bool.not_eq_true]at h;simp [zbQ,h]
theorem ztl {neg:Bool}{n d:List UInt8}{fr:Bool}(h:¬zaW d=true):zbQ neg n d fr=false:=by rw [Bool.not_eq_true]at h;simp [zbQ,h]
theorem zoc {neg:Bool}{n:List UInt8}:zbQ neg n [48] true=false:=by simp [zbQ]
theorem zob {neg:Bool}{n:List UInt8}:zbQ neg n [49] true=false:=by simp [zbQ]
theorem zoa {neg:Bool}{d:List UInt8}(h:zaW d=true)(h1:d≠[49]):zbQ neg [48] d true=false:=by
 have hv:=zaj (shortN_iff.1 h).1;have:Nat.gcd (valD [48]) (valD d)≠1:=by show Nat.gcd 0 (valD d)≠1;rw [Nat.gcd_zero_left];intro e;rw [e]at hv;exact h1 hv.symm
 simp [zbQ,this]
theorem ziG {neg:Bool}{n d:List UInt8}(h1:zaW n=true)(h2:zaW d=true)(h3:n≠[48])(h4:d≠[48])(h5:d≠[49]):zbQ neg n d true=decide (Nat.gcd (valD n) (valD d)=1):=by simp [zbQ,h1,h2,h3,h4,h5]
theorem s48:zaW [48]=true:=by decide
theorem s49:zaW [49]=true:=by decide
theorem ziH {neg:Bool}{n:List UInt8}(h1:zaW n=true):zbQ neg n [49] false= !(neg&&decide (n=[48])):=by
 have:Nat.gcd (valD n) (valD [49])=1:=by show Nat.gcd (valD n) 1=1;rw [Nat.gcd_one_right]
 simp only [zbQ,h1,s49,this,Bool.and_self,Bool.true_and,Bool.false_and,Bool.not_false,Bool.and_true,decide_true]
end Go.Proofs

namespace Go.Proofs
open Go.Ab Go.Pl
end Go.Proofs

namespace Go.Proofs
open Go.Ab Go.Pl
attribute [go_sem] List.getElem?_cons_zero List.getElem?_cons_succ
def numV(s:Bool)(n d:List UInt8):V:=.agg [.bool s,.str n,.str d]
def zdk(a:List UInt8):V:=match ratP a with
 |some (s,n,d)=>.tup [numV s (dec n) (dec d),.bool true]
 |none=>.tup [numV false [] [],.bool false]
def zdK(neg:Bool)(n d:List UInt8)(fr:Bool):V:=if zbQ neg n d fr=true then .tup [numV neg n d,.bool true]else .tup [numV false [] [],.bool false]
theorem zkx(a:List UInt8):zdk a=zdK (zF a).1 (zF a).2.1 (zF a).2.2.1 (zF a).2.2.2:=by
 unfold zdk zdK ratP;split
 ·rename_i h;split at h
  ·rename_i hk;simp only [Option.some.injEq,Prod.mk.injEq]at h;obtain⟨rfl,rfl,rfl⟩:=h;rw [if_pos hk];simp only [zbQ,Bool.and_eq_true]at hk;rw [zaj (shortN_iff.1 hk.1.1.1.1).1,zaj (shortN_iff.1 hk.1.1.1.2).1]
  ·cases h
 ·rename_i h;split at h
  ·cases h
  ·rename_i hk;rw [if_neg hk]
theorem zhC {a:List UInt8}{neg:Bool}{r:List UInt8}{i:Nat}(h1:decide (a.getD 0 0=45)=neg)(h2:r=if neg=true then a.drop 1 else a)(h3:r.findIdx? (· ==47)=some i):zdk a=zdK neg (r.take i) (r.drop (i+1)) true:=by
 rw [zkx];have:zF a=(neg,r.take i,r.drop (i+1),true):=by unfold zF;simp only;rw [h1, ←h2,h3]
 rw [this]
theorem zhD {a:List UInt8}{neg:Bool}{r:List UInt8}(h1:decide (a.getD 0 0=45)=neg)(h2:r=if neg=true then a.drop 1 else a)(h3:r.findIdx? (· ==47)=none):zdk a=zdK neg r [49] false:=by
 rw [zkx];have:zF a=(neg,r,[49],false):=by unfold zF;simp only;rw [h1, ←h2,h3]
 rw [this]
theorem zfw {neg:Bool}{n d:List UInt8}{fr:Bool}(h:zbQ neg n d fr=true):zdK neg n d fr=.tup [numV neg n d,.bool true]:=if_pos h
theorem zaX {neg:Bool}{n d:List UInt8}{fr:Bool}(h:zbQ neg n d fr=false):zdK neg n d fr=.tup [numV false [] [],.bool false]:=if_neg (by rw [h];decide)
theorem pref45(a:List UInt8):List.isPrefixOf [45] a=decide (a.getD 0 0=45):=by
 rcases a with _|⟨c,a⟩
 ·rfl
 ·show (45==c&&true)=decide (c=45);rw [Bool.and_true,Bool.eq_iff_iff];simp only [beq_iff_eq,decide_eq_true_eq];exact eq_comm
theorem zeJ(n d:List UInt8):(!zN n|| !zN d||decide (400<(n.length:Int))||decide (400<(d.length:Int)))= !(zaW n&&zaW d):=by
 rw [Bool.eq_iff_iff];simp only [zaW,Bool.or_eq_true,Bool.not_eq_true',Bool.and_eq_false_imp,decide_eq_true_eq,Bool.and_eq_true,decide_eq_false_iff_not];constructor
 ·rintro(((h|h)|h)|h) h1 h2
  ·rw [h]at h1;exact absurd h1.1 (by decide)
  ·rw [h]at h2;exact absurd h2 (by decide)
  ·omega
  ·omega
 ·intro h;by_cases h1:zN n=true
  ·by_cases h2:zN d=true
   ·by_cases h3:n.length≤400
    ·have:=h ⟨h1,h3⟩ h2;exact .inr (by omega)
    ·exact .inl (.inr (by omega))
   ·exact .inl (.inl (.inr (by simpa using h2)))
  ·exact .inl (.inl (.inl (by simpa using h1)))
theorem zkg(n:List UInt8):(!zN n||decide (400<(n.length:Int)))= !zaW n:=by
 have:=zeJ n [49];have h1:zN [49]=true:=by decide
 have h2:decide (400<(([49]:List UInt8).length:Int))=false:=by decide
 rw [h1,h2,s49,Bool.not_true,Bool.or_false,Bool.or_false,Bool.and_true]at this;exact this
set_option maxHeartbeats 8000000 in
set_option maxRecDepth 100000 in
theorem parse_ok(a:List UInt8)(hl:a.length≤1000000000):PCall Tryz.prog 116 [.str a] (.ret (zdk a)):=by
 have hΓ:=zg znw (zg cCut_ok (zg zcd (zg zoV zh)));refine PCall.walk (rs:=[.cell 2 150,.tmp 3]) [0,2,3,4,5,6,7,8,9,10,23,41,58,71] [] mixed (hΓ) (zf) call116 Tryz.func116 rfl Tryz.ntmps116 rfl (by kernel_rfl) (by simp) (by simp [push_cast]) ?_;by_cases hneg:a.getD 0 0=45
 ·have hq:=decide_eq_true hneg;have hr:(a.drop 1).length≤1000000000:=by first|exact hl|(simp;omega)
  have p1:=fun i=>zhC (r:=a.drop 1) (i:=i) hq rfl;have p2:=zhD (r:=a.drop 1) hq rfl;have hcp:zba a [45]=.tup [.str (a.drop 1),.bool true]:=by unfold zba;rw [pref45,hq];rfl
  simp (disch:=first|assumption|(push_cast<;>omega)|omega) only [go_sem,hcp];generalize a.drop 1=r at*;cases hf:r.findIdx? (· ==47)with
  |some i=>
   rw [p1 i hf];have hct:cutV r 47=.tup [.str (r.take i),.str (r.drop (i+1)),.bool true]:=by unfold cutV;rw [hf]
   generalize r.take i=n at*;generalize r.drop (i+1)=d at*;simp only [go_sem,hct];rw [zeJ];by_cases h1:zaW n=true
   case neg=>
    rw [zaX (ziF h1)]
    simp only [go_sem,h1,Bool.false_and,numV]
    exact .pure (by simp [zQ,zL,zO])
   by_cases h2:zaW d=true
   case neg=>
    rw [zaX (ztl h2)]
    simp only [go_sem,h1,h2,Bool.and_false,numV]
    exact .pure (by simp [zQ,zL,zO])
   by_cases h4:d=[48]
   ·rw [h4,zaX zoc];simp only [go_sem,h1,s48,Bool.and_self,numV];exact .pure (by simp [zQ,zL,zO])
   by_cases h5:d=[49]
   ·rw [h5,zaX zob];simp only [go_sem,h1,s49,Bool.and_self,numV];first
     |exact .pure (by simp [zQ,zL,zO])
     |exact⟨fun h=>⟨h,fun _=>by rw [h];rfl⟩,.pure (by simp [zQ,zL,zO])⟩
   by_cases h3:n=[48]
   ·rw [h3,zaX (zoa h2 h5)];have hg:decide (Nat.gcd (valD [48]) (valD d)=1)=false:=by rw [decide_eq_false_iff_not,show valD [48]=0 from rfl,Nat.gcd_zero_left];intro e;have hv:=zaj (shortN_iff.1 h2).1;rw [e]at hv;exact h5 hv.symm
    simp only [go_sem,s48,h2,h4,h5,Bool.and_self,numV,zc5 (shortN_iff.1 s48).1 (shortN_iff.1 h2).1,zbt,hg];exact .pure (by simp [zQ,zL,zO])
   simp only [go_sem,h1,h2,h3,h4,h5,zc5 (shortN_iff.1 h1).1 (shortN_iff.1 h2).1,zbt,Bool.and_self];refine AXc.introN (fun h6=>?_) (fun h6=>?_)
   ·rw [zaX (by rw [ziG h1 h2 h3 h4 h5];simpa using h6)];simp only [go_sem,numV];exact .pure (by simp [zQ,zL,zO])
   ·rw [zfw (by rw [ziG h1 h2 h3 h4 h5];simpa using h6)];simp only [go_sem,numV];exact .pure (by simp [zQ,zL,zO])
  |none=>
   rw [p2 hf];have hct:cutV r 47=.tup [.str r,.str [],.bool false]:=by unfold cutV;rw [hf]
   have v49:zN [49]=true:=by decide
   simp only [go_sem,hct,v49];rw [zkg];by_cases h1:zaW r=true
   case neg=>
    rw [zaX (ziF h1)]
    simp only [go_sem,h1,numV]
    exact .pure (by simp [zQ,zL,zO])
   have g1:decide (Nat.gcd (valD r) (valD [49])=1)=true:=by rw [decide_eq_true_eq,show valD [49]=1 from rfl,Nat.gcd_one_right]
   by_cases h3:r=[48]
   ·have hq2:zdK true r [49] false=if true=true then .tup [numV false [] [],.bool false]else .tup [numV true r [49],.bool true]:=by
     unfold zdK
     rw [ziH h1,h3]
     rfl
    rw [hq2]
    rw [h3]at g1 ⊢
    simp only [go_sem,s48,numV,zc5 (shortN_iff.1 s48).1 (shortN_iff.1 s49).1,zbt,g1,if_true,Bool.false_eq_true,if_false]
    exact .pure (by simp [zQ,zL,zO])
   ·rw [zfw (by rw [ziH h1];simp [h3])];simp only [go_sem,h1,h3,numV,zc5 (shortN_iff.1 h1).1 (shortN_iff.1 s49).1,zbt,g1];exact .pure (by simp [zQ,zL,zO])
 ·have hq:=decide_eq_false hneg;have hr:(a).length≤1000000000:=by first|exact hl|(simp;omega)
  have p1:=fun i=>zhC (r:=a) (i:=i) hq rfl;have p2:=zhD (r:=a) hq rfl;have hcp:zba a [45]=.tup [.str (a),.bool false]:=by unfold zba;rw [pref45,hq];rfl
  simp (disch:=first|assumption|(push_cast<;>omega)|omega) only [go_sem,hcp];generalize a=r at*;cases hf:r.findIdx? (· ==47)with
  |some i=>
   rw [p1 i hf];have hct:cutV r 47=.tup [.str (r.take i),.str (r.drop (i+1)),.bool true]:=by unfold cutV;rw [hf]
   generalize r.take i=n at*;generalize r.drop (i+1)=d at*;simp only [go_sem,hct];rw [zeJ];by_cases h1:zaW n=true
   case neg=>
    rw [zaX (ziF h1)]
    simp only [go_sem,h1,Bool.false_and,numV]
    exact .pure (by simp [zQ,zL,zO])
   by_cases h2:zaW d=true
   case neg=>
    rw [zaX (ztl h2)]
    simp only [go_sem,h1,h2,Bool.and_false,numV]
    exact .pure (by simp [zQ,zL,zO])
   by_cases h4:d=[48]
   ·rw [h4,zaX zoc];simp only [go_sem,h1,s48,Bool.and_self,numV];exact .pure (by simp [zQ,zL,zO])
   by_cases h5:d=[49]
   ·rw [h5,zaX zob];simp only [go_sem,h1,s49,Bool.and_self,numV];first
     |exact .pure (by simp [zQ,zL,zO])
     |exact⟨fun h=>⟨h,fun _=>by rw [h];rfl⟩,.pure (by simp [zQ,zL,zO])⟩
   by_cases h3:n=[48]
   ·rw [h3,zaX (zoa h2 h5)];have hg:decide (Nat.gcd (valD [48]) (valD d)=1)=false:=by rw [decide_eq_false_iff_not,show valD [48]=0 from rfl,Nat.gcd_zero_left];intro e;have hv:=zaj (shortN_iff.1 h2).1;rw [e]at hv;exact h5 hv.symm
    simp only [go_sem,s48,h2,h4,h5,Bool.and_self,numV,zc5 (shortN_iff.1 s48).1 (shortN_iff.1 h2).1,zbt,hg];exact .pure (by simp [zQ,zL,zO])
   simp only [go_sem,h1,h2,h3,h4,h5,zc5 (shortN_iff.1 h1).1 (shortN_iff.1 h2).1,zbt,Bool.and_self];refine AXc.introN (fun h6=>?_) (fun h6=>?_)
   ·rw [zaX (by rw [ziG h1 h2 h3 h4 h5];simpa using h6)];simp only [go_sem,numV];exact .pure (by simp [zQ,zL,zO])
   ·rw [zfw (by rw [ziG h1 h2 h3 h4 h5];simpa using h6)];simp only [go_sem,numV];exact .pure (by simp [zQ,zL,zO])
  |none=>
   rw [p2 hf];have hct:cutV r 47=.tup [.str r,.str [],.bool false]:=by unfold cutV;rw [hf]
   have v49:zN [49]=true:=by decide
   simp only [go_sem,hct,v49];rw [zkg];by_cases h1:zaW r=true
   case neg=>
    rw [zaX (ziF h1)]
    simp only [go_sem,h1,numV]
    exact .pure (by simp [zQ,zL,zO])
   have g1:decide (Nat.gcd (valD r) (valD [49])=1)=true:=by rw [decide_eq_true_eq,show valD [49]=1 from rfl,Nat.gcd_one_right]
   by_cases h3:r=[48]
   ·have hq2:zdK false r [49] false=if false=true then .tup [numV false [] [],.bool false]else .tup [numV false r [49],.bool true]:=by
     unfold zdK
     rw [ziH h1,h3]
     rfl
    rw [hq2]
    rw [h3]at g1 ⊢
    simp only [go_sem,s48,numV,zc5 (shortN_iff.1 s48).1 (shortN_iff.1 s49).1,zbt,g1,if_true,Bool.false_eq_true,if_false]
    exact .pure (by simp [zQ,zL,zO])
   ·rw [zfw (by rw [ziH h1];simp [h3])];simp only [go_sem,h1,h3,numV,zc5 (shortN_iff.1 h1).1 (shortN_iff.1 s49).1,zbt,g1];exact .pure (by simp [zQ,zL,zO])
end Go.Proofs

namespace Go.Proofs
open Go.Ab Go.Pl
end Go.Proofs

namespace Go.Proofs
open Go.Ab Go.Pl
theorem zfu {a:List UInt8}{s:Bool}{n d:Nat}(h:ratP a=some (s,n,d)):(dec n).length≤400∧(dec d).length≤400∧0<d:=by obtain⟨h0,_,h1,h2⟩:=zb6 h;exact⟨h1,h2,h0⟩
end Go.Proofs

namespace Go.Proofs
open Go.Ab Go.Pl
theorem parseV_s {a:List UInt8}{s:Bool}{n d:Nat}(hr:ratP a=some (s,n,d)):zdk a=.tup [.agg [.bool s,.str (dec n),.str (dec d)],.bool true]:=by unfold zdk;generalize ratP a=q at hr;subst hr;rfl
theorem parseV_n {a:List UInt8}(hr:ratP a=none):zdk a=.tup [.agg [.bool false,.str [],.str []],.bool false]:=by unfold zdk;generalize ratP a=q at hr;subst hr;rfl
noncomputable def zoT:List V→Option PR:=zG (fun a:List UInt8=>[.str a]) (fun a=>a.length≤1000000000) fun a=>.ret (zdk a)
theorem zlv(a:List UInt8)(h:a.length≤1000000000):zoT [.str a]=some (.ret (zdk a)):=zn (pat:=fun a:List UInt8=>[V.str a]) (fun x y h=>by simpa using h) a h
theorem zgG:∀ args r,zoT args=some r→PCall Tryz.prog 116 args r:=zk fun a h=>parse_ok a h
@[go_sem] theorem cParse_s {a:List UInt8}{s:Bool}{n d:Nat}(hr:ratP a=some (s,n,d))(h:a.length≤1000000000):zoT [.str a]=some (.ret (.tup [.agg [.bool s,.str (dec n),.str (dec d)],.bool true])):=
 (zlv a h).trans (congrArg (fun v=>some (PR.ret v)) (parseV_s hr))
@[go_sem] theorem cParse_n {a:List UInt8}(hr:ratP a=none)(h:a.length≤1000000000):zoT [.str a]=some (.ret (.tup [.agg [.bool false,.str [],.str []],.bool false])):=
 (zlv a h).trans (congrArg (fun v=>some (PR.ret v)) (parseV_n hr))
theorem zmr(a:List UInt8)(h:a.length≤1000000000):PCall Tryz.prog 145 [.str a] (.ret (.bool (ratP a).isSome)):=by
 refine PCall.walk (rs:=[.tmp 2]) [0,2] [] mixed (zg zgG zh) (zf) call145 Tryz.func145 rfl Tryz.ntmps145 rfl (by kernel_rfl) (by simp) (by simp [push_cast]) ?_;cases hr:ratP a with
 |none=>simp (disch:=first|assumption|(push_cast<;>omega)|omega) only [go_sem,hr,Option.isSome_none]
 |some q=>
  obtain⟨s,n,d⟩:=q;simp (disch:=first|assumption|(push_cast<;>omega)|omega) only [go_sem,hr,Option.isSome_some]
noncomputable def zlu:List V→Option PR:=zG (fun a:List UInt8=>[.str a]) (fun a=>a.length≤1000000000) fun a=>.ret (.bool (ratP a).isSome)
@[go_sem] theorem cRatValid_eq(a:List UInt8)(h:a.length≤1000000000):zlu [.str a]=some (.ret (.bool (ratP a).isSome)):=zn (pat:=fun a:List UInt8=>[V.str a]) (fun x y h=>by simpa using h) a h
theorem zlt:∀ args r,zlu args=some r→PCall Tryz.prog 145 args r:=zk fun a h=>zmr a h
set_option maxHeartbeats 8000000 in
set_option maxRecDepth 100000 in
theorem ztn(a b:List UInt8)(la:a.length≤1000000000)(lb:b.length≤1000000000):PCall Tryz.prog 70 [.str a,.str b] (.ret (.int .i64 (za5 a b))):=by
 have hΓ:=zg zgG (zg zoU (zg zey (zg zlw zh)));refine PCall.walk (rs:=[.tmp 4]) [0,1,4,5,6,7,8,9,10,26,52,55] [] mixed (hΓ) (zf) call70 Tryz.func70 rfl Tryz.ntmps70 rfl (by kernel_rfl) (by simp) (by simp [push_cast]) ?_;cases ha:ratP a with
 |none=>
  rw [ztp b ha];cases hb:ratP b with
  |none=>simp (disch:=first|assumption|(push_cast<;>omega)|omega) only [go_sem,ha,hb]
  |some y=>
   obtain⟨q,n,f⟩:=y;simp (disch:=first|assumption|(push_cast<;>omega)|omega) only [go_sem,ha,hb]
 |some x=>
  obtain⟨p,m,d⟩:=x;cases hb:ratP b with
  |none=>
   rw [zto a hb];simp (disch:=first|assumption|(push_cast<;>omega)|omega) only [go_sem,ha,hb]
  |some y=>
   obtain⟨q,n,f⟩:=y;rw [ziI ha hb];obtain⟨lm,ld,_⟩:=zfu ha;obtain⟨ln,lf,_⟩:=zfu hb;have l1:=zbl lm lf;have l2:=zbl ln ld;simp (disch:=first|assumption|(push_cast<;>omega)|omega) only [go_sem,ha,hb];refine AXk.intro (by kernel_rfl) ?_;have hz:decide (dec (sumS p (m*f) (!q) (n*d)).2=[48])=decide ((sumS p (m*f) (!q) (n*d)).2=0):=by simp only [dec_is_zero]
   simp (disch:=first|assumption|(push_cast<;>omega)|omega) only [go_sem];rw [hz];refine AXc.introP (fun h1=>?_) (fun h1=>?_)
   ·simp (disch:=first|assumption|(push_cast<;>omega)|omega) only [go_sem,h1]
   ·cases h2:(sumS p (m*f) (!q) (n*d)).1
    ·simp (disch:=first|assumption|(push_cast<;>omega)|omega) only [go_sem,h1,h2,Bool.false_eq_true]
    ·simp (disch:=first|assumption|(push_cast<;>omega)|omega) only [go_sem,h1,h2]
noncomputable def zv4:List V→Option PR:=zG (fun p:List UInt8×List UInt8=>[.str p.1,.str p.2]) (fun p=>p.1.length≤1000000000∧p.2.length≤1000000000) (fun p=>.ret (.int .i64 (za5 p.1 p.2)))
theorem zhX:∀ args r,zv4 args=some r→PCall Tryz.prog 70 args r:=zk fun p h=>ztn p.1 p.2 h.1 h.2
@[go_sem] theorem zrL(a b:List UInt8)(la:a.length≤1000000000)(lb:b.length≤1000000000):zv4 [.str a,.str b]=some (.ret (.int .i64 (za5 a b))):=zn (fun p q h=>by simp at h;exact Prod.ext h.1 h.2) (a,b) ⟨la,lb⟩
end Go.Proofs
