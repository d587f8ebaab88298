/- The reference's rational numbers: Parts, Valid, sums. -/
import Derived.Test.YtfilkkmcagndlaaGreatDoorF2h
import Derived.Test.YtfilkkmcagndlaaGreatDoorAbRules
set_option linter.all false
namespace Go.Proofs
open Go.Ab Go.Pl
noncomputable def zme:List V→Option PR:=zH (fun a:List UInt8=>[.str a]) (fun a=>a.length≤1000000000) fun a=>.ret (zb6 a)
theorem zkt(a:List UInt8)(h:a.length≤1000000000):zme [.str a]=some (.ret (zb6 a)):=zn (pat:=fun a:List UInt8=>[V.str a]) (fun x y h=>by simpa using h) a h
theorem zdN:∀ args r,zme args=some r→PCall Tryz.prog 42 args r:=zo fun a h=>zwS a h
theorem partsV_s {a:List UInt8}{s:Bool}{n d:Nat}(hr:ratP a=some (s,n,d)):zb6 a=.tup [.bool s,.str (dec n),.str (dec d),.bool true]:=by unfold zb6;generalize ratP a=q at hr;subst hr;rfl
theorem partsV_n {a:List UInt8}(hr:ratP a=none):zb6 a=.tup [.bool false,.str [],.str [],.bool false]:=by unfold zb6;generalize ratP a=q at hr;subst hr;rfl
@[go_sem] theorem cRParts_s {a:List UInt8}{s:Bool}{n d:Nat}(hr:ratP a=some (s,n,d))(h:a.length≤1000000000):zme [.str a]=some (.ret (.tup [.bool s,.str (dec n),.str (dec d),.bool true])):=
 (zkt a h).trans (congrArg (fun v=>some (PR.ret v)) (partsV_s hr))
@[go_sem] theorem cRParts_n {a:List UInt8}(hr:ratP a=none)(h:a.length≤1000000000):zme [.str a]=some (.ret (.tup [.bool false,.str [],.str [],.bool false])):=
 (zkt a h).trans (congrArg (fun v=>some (PR.ret v)) (partsV_n hr))
theorem zti(a:List UInt8)(h:a.length≤1000000000):PCall Tryz.prog 38 [.str a] (.ret (.bool (ratP a).isSome)):=by
 refine PCall.walk (rs:=[.tmp 2]) [0,2,6] [] mixed (zf zdN zh) (zg) call38 Tryz.func38 rfl Tryz.ntmps38 rfl (by kernel_rfl) (by simp) (by simp [push_cast]) ?_;cases hr:ratP a with
 |none=>simp (disch:=first|assumption|(push_cast<;>omega)|omega) only [go_sem,hr,Option.isSome_none]
 |some q=>
  obtain⟨s,n,d⟩:=q;simp (disch:=first|assumption|(push_cast<;>omega)|omega) only [go_sem,hr,Option.isSome_some]
noncomputable def zmf:List V→Option PR:=zH (fun a:List UInt8=>[.str a]) (fun a=>a.length≤1000000000) fun a=>.ret (.bool (ratP a).isSome)
@[go_sem] theorem zql(a:List UInt8)(h:a.length≤1000000000):zmf [.str a]=some (.ret (.bool (ratP a).isSome)):=zn (pat:=fun a:List UInt8=>[V.str a]) (fun x y h=>by simpa using h) a h
theorem zqk:∀ args r,zmf args=some r→PCall Tryz.prog 38 args r:=zo fun a h=>zti a h
end Go.Proofs

namespace Go.Pl
theorem zC {m n j k:Nat}(hm:(dec m).length≤j)(hn:(dec n).length≤k):(dec (m*n)).length≤j+k:=by have h1:=zcO hm;have h2:=zcO hn;have h3:=zeh m;refine zat ?_ (by omega);rw [Nat.pow_add];exact Nat.mul_lt_mul'' h1 h2
theorem zfu {m n k:Nat}(hm:(dec m).length≤k)(hn:(dec n).length≤k):(dec (m+n)).length≤k+1:=by have h1:=zcO hm;have h2:=zcO hn;refine zat ?_ (by omega);rw [Nat.pow_succ];generalize (10:Nat) ^ k=p at*;omega
theorem zeY {p q:Bool}{a b k:Nat}(ha:(dec a).length≤k)(hb:(dec b).length≤k):(dec (sumS p a q b).2).length≤k+1:=by
 unfold sumS;split
 ·exact zfu ha hb
 ·split
  ·exact Nat.le_trans (zaz (Nat.sub_le ..)) (by omega)
  ·exact Nat.le_trans (zaz (Nat.sub_le ..)) (by omega)
theorem zyz {m n k:Nat}(hn:0<n)(h:(dec n).length≤k):(dec (Nat.gcd m n)).length≤k:=Nat.le_trans (zaz (Nat.gcd_le_right m hn)) h
theorem zp0 {m n k:Nat}(h:(dec m).length≤k):(dec (m / n)).length≤k:=Nat.le_trans (zaz (Nat.div_le_self ..)) h
end Go.Pl

namespace Go.Proofs
open Go.Ab Go.Pl
theorem zxT {n:Nat}(h:(dec n).length≤1000):limV n=.tup [.str (dec n),.int .i64 0]:=if_neg (by omega)
theorem zri {x y:Nat}(hx:(dec x).length≤1000)(hy:(dec y).length≤1000)(h:(dec (x*y)).length≤1000):mulV (dec x) (dec y)=.tup [.str (dec (x*y)),.int .i64 0]:=by simp only [mulV,zam hx,zam hy,and_self,if_true,zao,zxT h]
theorem zsl {x y:Nat}(hx:(dec x).length≤1000)(hy:(dec y).length≤1000)(h:(dec (x+y)).length≤1000):addV (dec x) (dec y)=.tup [.str (dec (x+y)),.int .i64 0]:=by simp only [addV,zam hx,zam hy,and_self,if_true,zao,zxT h]
theorem zq1 {x y:Nat}(hx:(dec x).length≤1000)(hy:(dec y).length≤1000)(h:y≤x):subV (dec x) (dec y)=.tup [.str (dec (x - y)),.int .i64 0]:=by
 have:¬x<y:=by omega
 simp only [subV,zam hx,zam hy,and_self,if_true,zao,this,if_false]
theorem zrT {x y:Nat}(hx:(dec x).length≤1000)(hy:(dec y).length≤1000):cmpV (dec x) (dec y)=cmpI x y:=by simp only [cmpV,zam hx,zam hy,and_self,if_true,zao]
def mkV(neg:Bool)(n d:Nat):V:=if zd5 (n / Nat.gcd n d)=true∨zd5 (d / Nat.gcd n d)=true then errV 2 else .tup [.str (ratT neg (n / Nat.gcd n d) (d / Nat.gcd n d)),.int .i64 0]
def zdz(a b:List UInt8):Int:=match ratP a,ratP b with
 |some (p,m,d),some (q,n,f)=>if (sumS p (m*f) (!q) (n*d)).2=0 then 0 else if (sumS p (m*f) (!q) (n*d)).1=true then -1 else 1
 |_,_=>0
def zM(a b:List UInt8):V:=match ratP a,ratP b with
 |some (p,m,d),some (q,n,f)=>mkV (sumS p (m*f) q (n*d)).1 (sumS p (m*f) q (n*d)).2 (d*f)
 |_,_=>errV 1
def zK(a b:List UInt8):V:=match ratP a,ratP b with
 |some (p,m,d),some (q,n,f)=>mkV (!(p==q)) (m*n) (d*f)
 |_,_=>errV 1
def zaH(a b:List UInt8):V:=match ratP a,ratP b with
 |some (p,m,d),some (q,n,f)=>if n=0 then errV 4 else mkV (!(p==q)) (m*f) (d*n)
 |_,_=>errV 1
theorem zd1(neg:Bool)(n d:Nat):∃ s e,mkV neg n d=.tup [.str s,.int .i64 e]:=by unfold mkV;split<;>exact⟨_,_,rfl⟩
theorem zfo(a b:List UInt8):∃ s e,zM a b=.tup [.str s,.int .i64 e]:=by
 unfold zM;split
 ·exact zd1 ..
 ·exact⟨_,_,rfl⟩
theorem zfm(a b:List UInt8):∃ s e,zK a b=.tup [.str s,.int .i64 e]:=by
 unfold zK;split
 ·exact zd1 ..
 ·exact⟨_,_,rfl⟩
theorem zfn(a b:List UInt8):∃ s e,zaH a b=.tup [.str s,.int .i64 e]:=by
 unfold zaH;split
 ·split
  ·exact⟨_,_,rfl⟩
  ·exact zd1 ..
 ·exact⟨_,_,rfl⟩
theorem zld {a b:List UInt8}{p q:Bool}{m d n f:Nat}(ha:ratP a=some (p,m,d))(hb:ratP b=some (q,n,f)):zdz a b=if (sumS p (m*f) (!q) (n*d)).2=0 then 0 else if (sumS p (m*f) (!q) (n*d)).1=true then -1 else 1:=by unfold zdz;generalize ratP a=x at*;generalize ratP b=y at*;subst ha hb;rfl
theorem zez {a b:List UInt8}{p q:Bool}{m d n f:Nat}(ha:ratP a=some (p,m,d))(hb:ratP b=some (q,n,f)):zM a b=mkV (sumS p (m*f) q (n*d)).1 (sumS p (m*f) q (n*d)).2 (d*f):=by unfold zM;generalize ratP a=x at*;generalize ratP b=y at*;subst ha hb;rfl
theorem zih {a b:List UInt8}{p q:Bool}{m d n f:Nat}(ha:ratP a=some (p,m,d))(hb:ratP b=some (q,n,f)):zK a b=mkV (!(p==q)) (m*n) (d*f):=by unfold zK;generalize ratP a=x at*;generalize ratP b=y at*;subst ha hb;rfl
theorem zfQ {a b:List UInt8}{p q:Bool}{m d n f:Nat}(ha:ratP a=some (p,m,d))(hb:ratP b=some (q,n,f)):zaH a b=if n=0 then errV 4 else mkV (!(p==q)) (m*f) (d*n):=by unfold zaH;generalize ratP a=x at*;generalize ratP b=y at*;subst ha hb;rfl
theorem zj1 {a:List UInt8}(b:List UInt8)(ha:ratP a=none):zM a b=errV 1:=by unfold zM;generalize ratP a=x at*;subst ha;rfl
theorem zj0(a:List UInt8){b:List UInt8}(hb:ratP b=none):zM a b=errV 1:=by unfold zM;generalize ratP b=y at*;subst hb;cases ratP a<;>rfl
theorem zjX {a:List UInt8}(b:List UInt8)(ha:ratP a=none):zK a b=errV 1:=by unfold zK;generalize ratP a=x at*;subst ha;rfl
theorem zjW(a:List UInt8){b:List UInt8}(hb:ratP b=none):zK a b=errV 1:=by unfold zK;generalize ratP b=y at*;subst hb;cases ratP a<;>rfl
theorem zjZ {a:List UInt8}(b:List UInt8)(ha:ratP a=none):zaH a b=errV 1:=by unfold zaH;generalize ratP a=x at*;subst ha;rfl
theorem zjY(a:List UInt8){b:List UInt8}(hb:ratP b=none):zaH a b=errV 1:=by unfold zaH;generalize ratP b=y at*;subst hb;cases ratP a<;>rfl
theorem zm0 {a:List UInt8}(b:List UInt8)(ha:ratP a=none):zdz a b=0:=by unfold zdz;generalize ratP a=x at*;subst ha;rfl
theorem zmZ(a:List UInt8){b:List UInt8}(hb:ratP b=none):zdz a b=0:=by unfold zdz;generalize ratP b=y at*;subst hb;cases ratP a<;>rfl
end Go.Proofs

namespace Go.Proofs
open Go.Ab Go.Pl
noncomputable def cR2Mul:List V→Option PR:=zH (fun p:Nat×Nat=>[.str (dec p.1),.str (dec p.2)]) (fun p=>(dec p.1).length≤1000∧(dec p.2).length≤1000∧(dec (p.1*p.2)).length≤1000) (fun p=>.ret (.tup [.str (dec (p.1*p.2)),.int .i64 0]))
theorem zzR:∀ args r,cR2Mul args=some r→PCall Tryz.prog 76 args r:=zo fun p h=>by have:=rMul_ok (dec p.1) (dec p.2);rwa [zri h.1 h.2.1 h.2.2]at this
@[go_sem] theorem cR2Mul_eq(m n:Nat)(hm:(dec m).length≤1000)(hn:(dec n).length≤1000)(h:(dec (m*n)).length≤1000):cR2Mul [.str (dec m),.str (dec n)]=some (.ret (.tup [.str (dec (m*n)),.int .i64 0])):=
 zn (pat:=fun p:Nat×Nat=>[V.str (dec p.1),.str (dec p.2)]) (fun x y h=>by simp at h;exact Prod.ext (zah h.1) (zah h.2)) (m,n) ⟨hm,hn,h⟩
noncomputable def cR2Add:List V→Option PR:=zH (fun p:Nat×Nat=>[.str (dec p.1),.str (dec p.2)]) (fun p=>(dec p.1).length≤1000∧(dec p.2).length≤1000∧(dec (p.1+p.2)).length≤1000) (fun p=>.ret (.tup [.str (dec (p.1+p.2)),.int .i64 0]))
theorem zzT:∀ args r,cR2Add args=some r→PCall Tryz.prog 73 args r:=zo fun p h=>by have:=rAdd_ok (dec p.1) (dec p.2);rwa [zsl h.1 h.2.1 h.2.2]at this
@[go_sem] theorem cR2Add_eq(m n:Nat)(hm:(dec m).length≤1000)(hn:(dec n).length≤1000)(h:(dec (m+n)).length≤1000):cR2Add [.str (dec m),.str (dec n)]=some (.ret (.tup [.str (dec (m+n)),.int .i64 0])):=
 zn (pat:=fun p:Nat×Nat=>[V.str (dec p.1),.str (dec p.2)]) (fun x y h=>by simp at h;exact Prod.ext (zah h.1) (zah h.2)) (m,n) ⟨hm,hn,h⟩
noncomputable def cR2Sub:List V→Option PR:=zH (fun p:Nat×Nat=>[.str (dec p.1),.str (dec p.2)]) (fun p=>(dec p.1).length≤1000∧(dec p.2).length≤1000∧p.2≤p.1) (fun p=>.ret (.tup [.str (dec (p.1 - p.2)),.int .i64 0]))
theorem zzQ:∀ args r,cR2Sub args=some r→PCall Tryz.prog 75 args r:=zo fun p h=>by have:=rSub_ok (dec p.1) (dec p.2);rwa [zq1 h.1 h.2.1 h.2.2]at this
@[go_sem] theorem cR2Sub_eq(m n:Nat)(hm:(dec m).length≤1000)(hn:(dec n).length≤1000)(h:n≤m):cR2Sub [.str (dec m),.str (dec n)]=some (.ret (.tup [.str (dec (m - n)),.int .i64 0])):=
 zn (pat:=fun p:Nat×Nat=>[V.str (dec p.1),.str (dec p.2)]) (fun x y h=>by simp at h;exact Prod.ext (zah h.1) (zah h.2)) (m,n) ⟨hm,hn,h⟩
noncomputable def cR2Cmp:List V→Option PR:=zH (fun p:Nat×Nat=>[.str (dec p.1),.str (dec p.2)]) (fun p=>(dec p.1).length≤1000∧(dec p.2).length≤1000) (fun p=>.ret (.int .i64 (cmpI p.1 p.2)))
theorem zzS:∀ args r,cR2Cmp args=some r→PCall Tryz.prog 74 args r:=zo fun p h=>by have:=rCmp_ok (dec p.1) (dec p.2);rwa [zrT h.1 h.2]at this
@[go_sem] theorem cR2Cmp_eq(m n:Nat)(hm:(dec m).length≤1000)(hn:(dec n).length≤1000):cR2Cmp [.str (dec m),.str (dec n)]=some (.ret (.int .i64 (cmpI m n))):=
 zn (pat:=fun p:Nat×Nat=>[V.str (dec p.1),.str (dec p.2)]) (fun x y h=>by simp at h;exact Prod.ext (zah h.1) (zah h.2)) (m,n) ⟨hm,hn⟩
theorem zwQ(m n:Nat)(hm:(dec m).length≤400)(hn:(dec n).length≤400):PCall Tryz.prog 44 [.str (dec m),.str (dec n)] (.ret (.str (dec (m*n)))):=by
 refine PCall.walk (rs:=[.tmp 4]) [0,1,4,5] [] mixed (zf zzR zh) (zg) call44 Tryz.func44 rfl Tryz.ntmps44 rfl (by kernel_rfl) (by simp) (by simp [push_cast]) ?_;have:=zC hm hn;simp (disch:=first|assumption|(push_cast<;>omega)|omega) only [go_sem]
noncomputable def zzI:List V→Option PR:=zH (fun p:Nat×Nat=>[.str (dec p.1),.str (dec p.2)]) (fun p=>(dec p.1).length≤400∧(dec p.2).length≤400) (fun p=>.ret (.str (dec (p.1*p.2))))
theorem zfa:∀ args r,zzI args=some r→PCall Tryz.prog 44 args r:=zo fun p h=>zwQ p.1 p.2 h.1 h.2
@[go_sem] theorem cRTimes_eq(m n:Nat)(hm:(dec m).length≤400)(hn:(dec n).length≤400):zzI [.str (dec m),.str (dec n)]=some (.ret (.str (dec (m*n)))):=
 zn (pat:=fun p:Nat×Nat=>[V.str (dec p.1),.str (dec p.2)]) (fun x y h=>by simp at h;exact Prod.ext (zah h.1) (zah h.2)) (m,n) ⟨hm,hn⟩
set_option maxHeartbeats 4000000 in
theorem rSum_ok(p:Bool)(m:Nat)(q:Bool)(n:Nat)(hm:(dec m).length≤800)(hn:(dec n).length≤800):PCall Tryz.prog 43 [.bool p,.str (dec m),.bool q,.str (dec n)] (.ret (.tup [.bool (sumS p m q n).1,.str (dec (sumS p m q n).2)])):=by
 have hΓ:=zf zzT (zf zzS (zf zzQ zh));refine PCall.walk (rs:=[.tmp 8,.tmp 9]) [0,1,2,3,8,9,10,12,14,18,30] [] mixed (hΓ) (zg) call43 Tryz.func43 rfl Tryz.ntmps43 rfl (by kernel_rfl) (by simp) (by simp [push_cast]) ?_;have ha:=zfu hm hn;by_cases hpq:p=q
 ·subst hpq;simp (disch:=first|assumption|(push_cast<;>omega)|omega) only [go_sem,sumS,decide_true,beq_self_eq_true]
 ·have hpq':(p==q)=false:=by simpa using hpq
  simp (disch:=first|assumption|(push_cast<;>omega)|omega) only [go_sem,hpq'];refine AXc.introP (fun h1=>?_) (fun h1=>?_)
  ·have h2:n≤m:=by
    rw [zbS]at h1
    split at h1
    ·omega
    ·omega
   simp (disch:=first|assumption|(push_cast<;>omega)|omega) only [go_sem,sumS,hpq,h2]
  ·have h2:¬n≤m:=by
    rw [zbS]at h1
    split at h1
    ·omega
    ·split at h1<;>omega
   simp (disch:=first|assumption|(push_cast<;>omega)|omega) only [go_sem,sumS,hpq,h2]
noncomputable def cRSum:List V→Option PR:=zH (fun p:Bool×Nat×Bool×Nat=>[.bool p.1,.str (dec p.2.1),.bool p.2.2.1,.str (dec p.2.2.2)]) (fun p=>(dec p.2.1).length≤800∧(dec p.2.2.2).length≤800) (fun p=>.ret (.tup [.bool (sumS p.1 p.2.1 p.2.2.1 p.2.2.2).1,.str (dec (sumS p.1 p.2.1 p.2.2.1 p.2.2.2).2)]))
theorem zhF:∀ args r,cRSum args=some r→PCall Tryz.prog 43 args r:=zo fun p h=>rSum_ok p.1 p.2.1 p.2.2.1 p.2.2.2 h.1 h.2
@[go_sem] theorem cRSum_eq(p:Bool)(m:Nat)(q:Bool)(n:Nat)(hm:(dec m).length≤800)(hn:(dec n).length≤800):cRSum [.bool p,.str (dec m),.bool q,.str (dec n)]=some (.ret (.tup [.bool (sumS p m q n).1,.str (dec (sumS p m q n).2)])):=
 zn (pat:=fun p:Bool×Nat×Bool×Nat=>[V.bool p.1,.str (dec p.2.1),.bool p.2.2.1,.str (dec p.2.2.2)]) (fun x y h=>by obtain⟨x1,x2,x3,x4⟩:=x;obtain⟨y1,y2,y3,y4⟩:=y;simp at h;obtain⟨h1,h2,h3,h4⟩:=h;rw [h1,zah h2,h3,zah h4]) (p,m,q,n) ⟨hm,hn⟩
end Go.Proofs

namespace Go.Proofs
open Go.Ab Go.Pl
theorem zbg {a:List UInt8}{s:Bool}{n d:Nat}(h:ratP a=some (s,n,d)):(dec n).length≤400∧(dec d).length≤400∧0<d:=by obtain⟨h0,_,h1,h2⟩:=zev h;exact⟨h1,h2,h0⟩
set_option maxHeartbeats 4000000 in
set_option maxRecDepth 100000 in
theorem r3Cmp_ok(a b:List UInt8)(la:a.length≤1000000000)(lb:b.length≤1000000000):PCall Tryz.prog 54 [.str a,.str b] (.ret (.int .i64 (zdz a b))):=by
 have hΓ:=zf zdN (zf zfa (zf zhF zh));refine PCall.walk (rs:=[.tmp 4]) [0,1,4,5,6,7,8,9,10,11,12,13,14,34,48,51] [] mixed (hΓ) (zg) call54 Tryz.func54 rfl Tryz.ntmps54 rfl (by kernel_rfl) (by simp) (by simp [push_cast]) ?_;cases ha:ratP a with
 |none=>
  rw [zm0 b ha];cases hb:ratP b with
  |none=>simp (disch:=first|assumption|(push_cast<;>omega)|omega) only [go_sem,ha,hb]
  |some y=>
   obtain⟨q,n,f⟩:=y;simp (disch:=first|assumption|(push_cast<;>omega)|omega) only [go_sem,ha,hb]
 |some x=>
  obtain⟨p,m,d⟩:=x;cases hb:ratP b with
  |none=>
   rw [zmZ a hb];simp (disch:=first|assumption|(push_cast<;>omega)|omega) only [go_sem,ha,hb]
  |some y=>
   obtain⟨q,n,f⟩:=y;rw [zld ha hb];obtain⟨lm,ld,_⟩:=zbg ha;obtain⟨ln,lf,_⟩:=zbg hb;have l1:=zC lm lf;have l2:=zC ln ld;simp (disch:=first|assumption|(push_cast<;>omega)|omega) only [go_sem,ha,hb];have hz:decide (dec (sumS p (m*f) (!q) (n*d)).2=[48])=decide ((sumS p (m*f) (!q) (n*d)).2=0):=by simp only [dec_is_zero]
   rw [hz];refine AXc.introP (fun h1=>?_) (fun h1=>?_)
   ·simp (disch:=first|assumption|(push_cast<;>omega)|omega) only [go_sem,h1]
   ·cases h2:(sumS p (m*f) (!q) (n*d)).1
    ·simp (disch:=first|assumption|(push_cast<;>omega)|omega) only [go_sem,h1,h2,Bool.false_eq_true]
    ·simp (disch:=first|assumption|(push_cast<;>omega)|omega) only [go_sem,h1,h2]
theorem zlb(neg:Bool)(n d:Nat):ratT neg n d=(if neg=true∧n≠0 then [45]else [])++dec n++(if d=1 then []else 47::dec d):=rfl
theorem zno {n:Nat}:zd5 n=true↔400<(dec n).length:=by simp [zd5]
set_option maxHeartbeats 4000000 in
theorem rMake_ok(neg:Bool)(n d:Nat)(ln:(dec n).length≤1000)(ld:(dec d).length≤1000)(hd:0<d):PCall Tryz.prog 45 [.bool neg,.str (dec n),.str (dec d)] (.ret (mkV neg n d)):=by
 have hΓ:=zf zbd (zf zr1 (zf zr3 zh));refine PCall.walk (rs:=[.tmp 6,.tmp 7]) [0,1,2,6,7,8,10,13,27,55,60,64] [] mixed (hΓ) (zg) call45 Tryz.func45 rfl Tryz.ntmps45 rfl (by kernel_rfl) (by simp) (by simp [push_cast]) ?_;have v1:=zam ln;have v2:=zam ld;have hz:decide (dec d=[48])=false:=by rw [decide_eq_false_iff_not,dec_is_zero];omega
 have lg:=zyz (m:=n) hd ld;have hg:0<Nat.gcd n d:=Nat.gcd_pos_of_pos_right n hd;have le1:=zp0 (n:=Nat.gcd n d) ln;have le2:=zp0 (n:=Nat.gcd n d) ld;simp (disch:=first|assumption|(push_cast<;>omega)|omega) only [go_sem,v1,v2,hz];generalize hN:n / Nat.gcd n d=N at*;generalize hD:d / Nat.gcd n d=D at*;have hb:(decide (400<((dec N).length:Int))||decide (400<((dec D).length:Int)))=decide (zd5 N=true∨zd5 D=true):=by
  have e1:400<((dec N).length:Int)↔zd5 N=true:=by rw [zno];omega
  have e2:400<((dec D).length:Int)↔zd5 D=true:=by rw [zno];omega
  simp only [e1,e2,Bool.decide_or]
 rw [hb];have hzN:decide (dec N=[48])=decide (N=0):=by simp only [dec_is_zero]
 unfold mkV;rw [hN,hD];refine AXc.introP (fun h1=>?_) (fun h1=>?_)
 ·rw [if_pos h1];simp only [go_sem,errV]
 ·rw [if_neg h1];simp (disch:=first|assumption|(push_cast<;>omega)|omega) only [go_sem,hzN];have hbn:(neg&& !decide (N=0))=decide (neg=true∧N≠0):=by rw [Bool.eq_iff_iff];simp
  rw [hbn];refine AXc.introP (fun h2=>?_) (fun h2=>?_)
  ·simp (disch:=first|assumption|(push_cast<;>omega)|omega) only [go_sem,za4]
   (repeat refine sdC ?_);refine AXc.introP (fun h3=>?_) (fun h3=>?_)
   ·simp (disch:=first|assumption|(push_cast<;>omega)|omega) only [go_sem];rw [zlb,if_pos h2,if_pos h3,List.append_nil];all_goals simp
   ·simp (disch:=first|assumption|(push_cast<;>omega)|omega) only [go_sem];rw [zlb,if_pos h2,if_neg h3];simp;omega
  ·simp (disch:=first|assumption|(push_cast<;>omega)|omega) only [go_sem,za4];refine AXc.introP (fun h3=>?_) (fun h3=>?_)
   ·simp (disch:=first|assumption|(push_cast<;>omega)|omega) only [go_sem];rw [zlb,if_neg h2,if_pos h3,List.append_nil];simp
   ·simp (disch:=first|assumption|(push_cast<;>omega)|omega) only [go_sem];rw [zlb,if_neg h2,if_neg h3];simp;omega
end Go.Proofs

namespace Go.Proofs
open Go.Ab Go.Pl
noncomputable def cRMake:List V→Option PR:=zH (fun p:Bool×Nat×Nat=>[.bool p.1,.str (dec p.2.1),.str (dec p.2.2)]) (fun p=>(dec p.2.1).length≤1000∧(dec p.2.2).length≤1000∧0<p.2.2) (fun p=>.ret (mkV p.1 p.2.1 p.2.2))
theorem zi1:∀ args r,cRMake args=some r→PCall Tryz.prog 45 args r:=zo fun p h=>rMake_ok p.1 p.2.1 p.2.2 h.1 h.2.1 h.2.2
@[go_sem] theorem cRMake_eq(neg:Bool)(n d:Nat)(ln:(dec n).length≤1000)(ld:(dec d).length≤1000)(hd:0<d):cRMake [.bool neg,.str (dec n),.str (dec d)]=some (.ret (mkV neg n d)):=
 zn (pat:=fun p:Bool×Nat×Nat=>[V.bool p.1,.str (dec p.2.1),.str (dec p.2.2)]) (fun x y h=>by obtain⟨x1,x2,x3⟩:=x;obtain⟨y1,y2,y3⟩:=y;simp at h;obtain⟨h1,h2,h3⟩:=h;rw [h1,zah h2,zah h3]) (neg,n,d) ⟨ln,ld,hd⟩
set_option maxHeartbeats 4000000 in
set_option maxRecDepth 100000 in
theorem r3Add_ok(a b:List UInt8)(la:a.length≤1000000000)(lb:b.length≤1000000000):PCall Tryz.prog 16 [.str a,.str b] (.ret (zM a b)):=by
 have hΓ:=zf zdN (zf zfa (zf zhF (zf zi1 zh)));refine PCall.walk (rs:=[.tmp 4,.tmp 5]) [0,1,4,5,6,7,8,9,10,11,12,13,14,15,35] [] mixed (hΓ) (zg) call16 Tryz.func16 rfl Tryz.ntmps16 rfl (by kernel_rfl) (by simp) (by simp [push_cast]) ?_;cases ha:ratP a with
 |none=>
  rw [zj1 b ha];cases hb:ratP b with
  |none=>simp (disch:=first|assumption|(push_cast<;>omega)|omega) only [go_sem,ha,hb,errV]
  |some y=>
   obtain⟨q,n,f⟩:=y;simp (disch:=first|assumption|(push_cast<;>omega)|omega) only [go_sem,ha,hb,errV]
 |some x=>
  obtain⟨p,m,d⟩:=x;cases hb:ratP b with
  |none=>
   rw [zj0 a hb];simp (disch:=first|assumption|(push_cast<;>omega)|omega) only [go_sem,ha,hb,errV]
  |some y=>
   obtain⟨q,n,f⟩:=y;rw [zez ha hb];obtain⟨lm,ld,d0⟩:=zbg ha;obtain⟨ln,lf,f0⟩:=zbg hb;have l1:=zC lm lf;have l2:=zC ln ld;have l3:=zC ld lf;have l4:=zC lm ln;have l5:=zC ld ln;have h0:=Nat.mul_pos d0 f0;have l6:=zeY (p:=p) (q:=q) l1 l2;obtain⟨s,e,hse⟩:=zd1 (sumS p (m*f) q (n*d)).1 (sumS p (m*f) q (n*d)).2 (d*f);simp (disch:=first|assumption|(push_cast<;>omega)|omega) only [go_sem,ha,hb,hse]
noncomputable def zr6:List V→Option PR:=zH (fun p:List UInt8×List UInt8=>[.str p.1,.str p.2]) (fun p=>p.1.length≤1000000000∧p.2.length≤1000000000) (fun p=>.ret (zM p.1 p.2))
theorem zzP:∀ args r,zr6 args=some r→PCall Tryz.prog 16 args r:=zo fun p h=>r3Add_ok p.1 p.2 h.1 h.2
@[go_sem] theorem cR3Add_eq(a b:List UInt8)(la:a.length≤1000000000)(lb:b.length≤1000000000):zr6 [.str a,.str b]=some (.ret (zM a b)):=zn (fun p q h=>by simp at h;exact Prod.ext h.1 h.2) (a,b) ⟨la,lb⟩
set_option maxHeartbeats 4000000 in
set_option maxRecDepth 100000 in
theorem r3Mul_ok(a b:List UInt8)(la:a.length≤1000000000)(lb:b.length≤1000000000):PCall Tryz.prog 67 [.str a,.str b] (.ret (zK a b)):=by
 have hΓ:=zf zdN (zf zfa (zf zhF (zf zi1 zh)));refine PCall.walk (rs:=[.tmp 4,.tmp 5]) [0,1,4,5,6,7,8,9,10,11,12,13,33] [] mixed (hΓ) (zg) call67 Tryz.func67 rfl Tryz.ntmps67 rfl (by kernel_rfl) (by simp) (by simp [push_cast]) ?_;cases ha:ratP a with
 |none=>
  rw [zjX b ha];cases hb:ratP b with
  |none=>simp (disch:=first|assumption|(push_cast<;>omega)|omega) only [go_sem,ha,hb,errV]
  |some y=>
   obtain⟨q,n,f⟩:=y;simp (disch:=first|assumption|(push_cast<;>omega)|omega) only [go_sem,ha,hb,errV]
 |some x=>
  obtain⟨p,m,d⟩:=x;cases hb:ratP b with
  |none=>
   rw [zjW a hb];simp (disch:=first|assumption|(push_cast<;>omega)|omega) only [go_sem,ha,hb,errV]
  |some y=>
   obtain⟨q,n,f⟩:=y;rw [zih ha hb];obtain⟨lm,ld,d0⟩:=zbg ha;obtain⟨ln,lf,f0⟩:=zbg hb;have l1:=zC lm lf;have l2:=zC ln ld;have l3:=zC ld lf;have l4:=zC lm ln;have l5:=zC ld ln;have h0:=Nat.mul_pos d0 f0;have l6:=zeY (p:=p) (q:=q) l1 l2;obtain⟨s,e,hse⟩:=zd1 (!(p==q)) (m*n) (d*f);simp (disch:=first|assumption|(push_cast<;>omega)|omega) only [go_sem,ha,hb,hse]
noncomputable def zr4:List V→Option PR:=zH (fun p:List UInt8×List UInt8=>[.str p.1,.str p.2]) (fun p=>p.1.length≤1000000000∧p.2.length≤1000000000) (fun p=>.ret (zK p.1 p.2))
theorem zzN:∀ args r,zr4 args=some r→PCall Tryz.prog 67 args r:=zo fun p h=>r3Mul_ok p.1 p.2 h.1 h.2
@[go_sem] theorem cR3Mul_eq(a b:List UInt8)(la:a.length≤1000000000)(lb:b.length≤1000000000):zr4 [.str a,.str b]=some (.ret (zK a b)):=zn (fun p q h=>by simp at h;exact Prod.ext h.1 h.2) (a,b) ⟨la,lb⟩
set_option maxHeartbeats 4000000 in
set_option maxRecDepth 100000 in
theorem r3Div_ok(a b:List UInt8)(la:a.length≤1000000000)(lb:b.length≤1000000000):PCall Tryz.prog 69 [.str a,.str b] (.ret (zaH a b)):=by
 have hΓ:=zf zdN (zf zfa (zf zhF (zf zi1 zh)));refine PCall.walk (rs:=[.tmp 4,.tmp 5]) [0,1,4,5,6,7,8,9,10,11,12,13,33,35] [] mixed (hΓ) (zg) call69 Tryz.func69 rfl Tryz.ntmps69 rfl (by kernel_rfl) (by simp) (by simp [push_cast]) ?_;cases ha:ratP a with
 |none=>
  rw [zjZ b ha];cases hb:ratP b with
  |none=>simp (disch:=first|assumption|(push_cast<;>omega)|omega) only [go_sem,ha,hb,errV]
  |some y=>
   obtain⟨q,n,f⟩:=y;simp (disch:=first|assumption|(push_cast<;>omega)|omega) only [go_sem,ha,hb,errV]
 |some x=>
  obtain⟨p,m,d⟩:=x;cases hb:ratP b with
  |none=>
   rw [zjY a hb];simp (disch:=first|assumption|(push_cast<;>omega)|omega) only [go_sem,ha,hb,errV]
  |some y=>
   obtain⟨q,n,f⟩:=y;rw [zfQ ha hb];obtain⟨lm,ld,d0⟩:=zbg ha;obtain⟨ln,lf,f0⟩:=zbg hb;have l1:=zC lm lf;have l2:=zC ln ld;have l3:=zC ld lf;have l4:=zC lm ln;have l5:=zC ld ln;have h0:=Nat.mul_pos d0 f0;have l6:=zeY (p:=p) (q:=q) l1 l2;have hz:decide (dec n=[48])=decide (n=0):=by simp only [dec_is_zero]
   obtain⟨s,e,hse⟩:=zd1 (!(p==q)) (m*f) (d*n);simp (disch:=first|assumption|(push_cast<;>omega)|omega) only [go_sem,ha,hb];rw [hz];refine AXc.introP (fun h1=>?_) (fun h1=>?_)
   ·rw [if_pos h1];simp only [go_sem,errV]
   ·rw [if_neg h1];have h2:0<n:=by omega
    have h3:=Nat.mul_pos d0 h2;simp (disch:=first|assumption|(push_cast<;>omega)|omega) only [go_sem,hse]
noncomputable def zr5:List V→Option PR:=zH (fun p:List UInt8×List UInt8=>[.str p.1,.str p.2]) (fun p=>p.1.length≤1000000000∧p.2.length≤1000000000) (fun p=>.ret (zaH p.1 p.2))
theorem zzO:∀ args r,zr5 args=some r→PCall Tryz.prog 69 args r:=zo fun p h=>r3Div_ok p.1 p.2 h.1 h.2
@[go_sem] theorem cR3Div_eq(a b:List UInt8)(la:a.length≤1000000000)(lb:b.length≤1000000000):zr5 [.str a,.str b]=some (.ret (zaH a b)):=zn (fun p q h=>by simp at h;exact Prod.ext h.1 h.2) (a,b) ⟨la,lb⟩
end Go.Proofs

namespace Go.Proofs
open Go.Ab Go.Pl
set_option maxHeartbeats 4000000 in
set_option maxRecDepth 100000 in
theorem zus(n:Nat)(hn:n≤1000000000000):PCall Tryz.prog 68 [.int .i64 n] (.ret (.str (dec n))):=by
 have hl:(dec n).length≤13:=zat (by omega) (by omega);refine PCall.walk (rs:=[.tmp 2]) [0,2,3,15] [] mixed (zh) (zg) call68 Tryz.func68 rfl Tryz.ntmps68 rfl (by kernel_rfl) (by simp) (by simp [push_cast]) ?_;simp only [go_sem];refine AXs.loop mixed (zh) (zg) (fun p:Nat×List UInt8=>[(0,.int .i64 p.1),(3,.str p.2)]) (fun _=>⟨[],0⟩) (fun p=>dec p.1++p.2=dec n∧p.1≤n) (fun p=>p.1) (n,[]) (by kernel_rfl) ⟨by simp,Nat.le_refl _⟩ (Sub.of0 [] rfl rfl ?_ ?_) ?_
 ·simp only [go_sem]
 ·simp only [go_sem]
 rintro⟨m,s⟩ ⟨h1,h2⟩;simp only at h1 h2;have hd:m % 10<10:=Nat.mod_lt _ (by omega);have hcv:∀ P:Program,P=Tryz.prog→zdu P 118 9 (.sl 0 0 1 1 (some 1)) ⟨[(0,.cells [.int .u8 (48+(m:Int) % 10)])],1⟩=⟨True,.str [dg (m % 10)],⟨[(0,.cells [.int .u8 (48+(m:Int) % 10)])],1⟩,[0],[]⟩:=by
  rintro _ rfl;have e:(48+(m:Int) % 10)=((48+m % 10:Nat):Int):=by omega
  rw [e];exact zgN 118 9 5 _ (nats .u8 [48+m % 10]) 1 [0] _ (by kernel_rfl) (by kernel_rfl) (by kernel_rfl) rfl (zel (l:=[m % 10]) fun x hx=>by obtain rfl:=List.mem_singleton.1 hx;exact hd)
 simp (disch:=first|assumption|(push_cast<;>omega)|rfl|omega) only [go_sem,hcv];have hs:=congrArg List.length h1;rw [List.length_append]at hs;refine⟨by omega,?_⟩;have hz:decide ((m:Int) / 10=0)=decide (m<10):=by
  have:(m:Int) / 10=0↔m<10:=by omega
  simp only [this]
 rw [hz];refine AXc.introP (fun h3=>?_) (fun h3=>?_)
 ·have e:dg (m % 10)::s=dec n:=by
   rw [←h1,zbB h3,Nat.mod_eq_of_lt h3];rfl
  simp (disch:=first|assumption|(push_cast<;>omega)|rfl|omega) only [go_sem,e]
 ·simp (disch:=first|assumption|(push_cast<;>omega)|rfl|omega) only [go_sem];refine zi (m / 10,dg (m % 10)::s) ⟨?_,by simp only;omega⟩ (by simp only;omega) (Sub.of0 [] rfl rfl ?_ ?_)
  ·rw [←h1,zdt (n:=m) (by omega)];simp [dg]
  ·simp only [go_sem];simp only [V.int.injEq,true_and];omega
  ·simp only [go_sem]
noncomputable def zgf:List V→Option PR:=zH (fun n:Nat=>[.int .i64 n]) (fun n=>n≤1000000000000) (fun n=>.ret (.str (dec n)))
theorem zqq:∀ args r,zgf args=some r→PCall Tryz.prog 68 args r:=zo fun n h=>zus n h
@[go_sem] theorem zfy(n:Nat)(h:n≤1000000000000):zgf [.int .i64 n]=some (.ret (.str (dec n))):=zn (pat:=fun n:Nat=>[V.int .i64 n]) (fun x y h=>by simp at h;omega) n h
end Go.Proofs

namespace Go.Ab
structure Row(α:Type) where
 enc:α→List V
 n:Nat
 dflt:α
 len:∀ a,(enc a).length=n
 pos:0<n
 pure:∀ a,∀ x∈enc a,Pure x
 one:∀ a,(enc a).all V.one=true
 inj:∀ a b,enc a=enc b→a=b
namespace Row
variable {α:Type}(R:Row α)
def cells(l:List α):List V:=l.flatMap R.enc
def nth(l:List α)(i:Nat):α:=l.getD i R.dflt
theorem zze:R.cells []=[]:=rfl
theorem zdL(e:α)(l:List α):R.cells (e::l)=R.enc e++R.cells l:=rfl
theorem len_cells:∀ l:List α,(R.cells l).length=l.length*R.n
 |[]=>by simp [cells]
 |e::l=>by rw [zdL,List.length_append,R.len,len_cells l,List.length_cons,Nat.add_mul,Nat.one_mul,Nat.add_comm]
theorem zkr:∀(l:List α) (i:Nat),(R.cells l).drop (i*R.n)=R.cells (l.drop i)
 |l,0=>by simp
 |[],i+1=>by simp [zze]
 |e::l,i+1=>by rw [zdL,Nat.add_mul,Nat.one_mul,Nat.add_comm, ←List.drop_drop,show R.n=(R.enc e).length by rw [R.len],List.drop_left,R.len];exact zkr l i
theorem drop_nth:∀(l:List α) (i:Nat),i<l.length→l.drop i=R.nth l i::l.drop (i+1)
 |[],_,h=>by simp at h
 |e::l,0,_=>rfl
 |e::l,i+1,h=>by have:=drop_nth l i (by simpa using h);simpa [nth] using this
theorem nth_mem {l:List α}{i:Nat}(h:i<l.length):R.nth l i∈l:=by unfold nth;rw [List.getD_eq_getElem?_getD,List.getElem?_eq_getElem h];exact List.getElem_mem h
theorem at_(l:List α)(i:Nat)(h:i<l.length):(R.cells l).drop (i*R.n)=R.enc (R.nth l i)++R.cells (l.drop (i+1)):=by rw [zkr,R.drop_nth l i h,zdL]
theorem pure_cells(l:List α):∀ x∈R.cells l,Pure x:=fun x h=>by obtain⟨a,_,h⟩:=List.mem_flatMap.1 h;exact R.pure a x h
theorem pure_cellsP(l:List α):(∀ x∈R.cells l,Pure x)↔True:=⟨fun _=>trivial,fun _=>R.pure_cells l⟩
theorem one_cells(l:List α):(R.cells l).all V.one=true:=List.all_eq_true.2 fun x h=>by obtain⟨a,_,h⟩:=List.mem_flatMap.1 h;exact List.all_eq_true.1 (R.one a) x h
theorem cells_inj:∀ {l r:List α},R.cells l=R.cells r→l=r
 |[],[],_=>rfl
 |[],e::r,h=>by have:=congrArg List.length h;rw [len_cells,len_cells,List.length_cons,Nat.add_mul]at this;have:=R.pos;simp at *; omega
 |e::l,[],h=>by have:=congrArg List.length h;rw [len_cells,len_cells,List.length_cons,Nat.add_mul]at this;have:=R.pos;simp at *; omega
 |e::l,e'::r,h=>by rw [zdL,zdL]at h;obtain⟨h1,h2⟩:=List.append_inj h (by rw [R.len,R.len]);rw [R.inj _ _ h1,cells_inj h2]
theorem lrel_cells {π:Nat→Nat}{N:Nat→Prop}(l:List α):LRel (Rn π N) (R.cells l) (R.cells l)↔True:=⟨fun _=>trivial,fun _=>zu (R.pure_cells l)⟩
theorem zvA {p:α→Bool}{l:List α}(h:∀ i,i<l.length→p (R.nth l i)=true):l.all p=true:=by refine List.all_eq_true.2 fun x hx=>?_;obtain⟨i,hi,rfl⟩:=List.mem_iff_getElem.1 hx;have:=h i hi;unfold nth at this;rwa [List.getD_eq_getElem?_getD,List.getElem?_eq_getElem hi]at this
theorem zvB {p:α→Bool}{l:List α}{i:Nat}(hi:i<l.length)(h:p (R.nth l i)=false):l.all p=false:=by
 cases e:l.all p with
 |false=>rfl
 |true=>rw [List.all_eq_true.1 e _ (R.nth_mem hi)]at h;cases h
end Row
end Go.Ab
