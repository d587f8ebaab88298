/- The reference's rational numbers: Parts, Valid, sums. -/
import Derived.Test.YtfilkkmcagndlaaGreatDoorF2h
import Derived.Test.YtfilkkmcagndlaaGreatDoorAbRules
set_option linter.all false
namespace Go.Proofs
open Go.Ab Go.Pl
noncomputable def zlP:List V→Option PR:=zD (fun a:List UInt8=>[.str a]) (fun a=>a.length≤1000000000) fun a=>.ret (zb0 a)
theorem zj2(a:List UInt8)(h:a.length≤1000000000):zlP [.str a]=some (.ret (zb0 a)):=zn (pat:=fun a:List UInt8=>[V.str a]) (fun x y h=>by simpa using h) a h
theorem zuN:∀ args r,zlP args=some r→PCall Tryz.prog 42 args r:=zo fun a h=>zww a h
theorem partsV_s {a:List UInt8}{s:Bool}{n d:Nat}(hr:ratP a=some (s,n,d)):zb0 a=.tup [.bool s,.str (dec n),.str (dec d),.bool true]:=by unfold zb0;generalize ratP a=q at hr;subst hr;rfl
theorem partsV_n {a:List UInt8}(hr:ratP a=none):zb0 a=.tup [.bool false,.str [],.str [],.bool false]:=by unfold zb0;generalize ratP a=q at hr;subst hr;rfl
@[go_sem] theorem cRParts_s {a:List UInt8}{s:Bool}{n d:Nat}(hr:ratP a=some (s,n,d))(h:a.length≤1000000000):zlP [.str a]=some (.ret (.tup [.bool s,.str (dec n),.str (dec d),.bool true])):=
 (zj2 a h).trans (congrArg (fun v=>some (PR.ret v)) (partsV_s hr))
@[go_sem] theorem cRParts_n {a:List UInt8}(hr:ratP a=none)(h:a.length≤1000000000):zlP [.str a]=some (.ret (.tup [.bool false,.str [],.str [],.bool false])):=
 (zj2 a h).trans (congrArg (fun v=>some (PR.ret v)) (partsV_n hr))
end Go.Proofs

namespace Go.Pl
theorem zL {m n j k:Nat}(hm:(dec m).length≤j)(hn:(dec n).length≤k):(dec (m*n)).length≤j+k:=by have h1:=zcB hm;have h2:=zcB hn;have h3:=zdZ m;refine zax ?_ (by omega);rw [Nat.pow_add];exact Nat.mul_lt_mul'' h1 h2
theorem zfa {m n k:Nat}(hm:(dec m).length≤k)(hn:(dec n).length≤k):(dec (m+n)).length≤k+1:=by have h1:=zcB hm;have h2:=zcB hn;refine zax ?_ (by omega);rw [Nat.pow_succ];generalize (10:Nat) ^ k=p at*;omega
theorem zg2 {p q:Bool}{a b k:Nat}(ha:(dec a).length≤k)(hb:(dec b).length≤k):(dec (sumS p a q b).2).length≤k+1:=by
 unfold sumS;split
 ·exact zfa ha hb
 ·split
  ·exact Nat.le_trans (zav (Nat.sub_le ..)) (by omega)
  ·exact Nat.le_trans (zav (Nat.sub_le ..)) (by omega)
theorem zye {m n k:Nat}(hn:0<n)(h:(dec n).length≤k):(dec (Nat.gcd m n)).length≤k:=Nat.le_trans (zav (Nat.gcd_le_right m hn)) h
theorem zpA {m n k:Nat}(h:(dec m).length≤k):(dec (m / n)).length≤k:=Nat.le_trans (zav (Nat.div_le_self ..)) h
end Go.Pl

namespace Go.Proofs
open Go.Ab Go.Pl
theorem zxy {n:Nat}(h:(dec n).length≤1000):limV n=.tup [.str (dec n),.int .i64 0]:=if_neg (by omega)
theorem zqS {x y:Nat}(hx:(dec x).length≤1000)(hy:(dec y).length≤1000)(h:(dec (x*y)).length≤1000):mulV (dec x) (dec y)=.tup [.str (dec (x*y)),.int .i64 0]:=by simp only [mulV,zae hx,zae hy,and_self,if_true,zah,zxy h]
theorem zrW {x y:Nat}(hx:(dec x).length≤1000)(hy:(dec y).length≤1000)(h:(dec (x+y)).length≤1000):addV (dec x) (dec y)=.tup [.str (dec (x+y)),.int .i64 0]:=by simp only [addV,zae hx,zae hy,and_self,if_true,zah,zxy h]
theorem zqD {x y:Nat}(hx:(dec x).length≤1000)(hy:(dec y).length≤1000)(h:y≤x):subV (dec x) (dec y)=.tup [.str (dec (x - y)),.int .i64 0]:=by
 have:¬x<y:=by omega
 simp only [subV,zae hx,zae hy,and_self,if_true,zah,this,if_false]
theorem zrx {x y:Nat}(hx:(dec x).length≤1000)(hy:(dec y).length≤1000):cmpV (dec x) (dec y)=cmpI x y:=by simp only [cmpV,zae hx,zae hy,and_self,if_true,zah]
def mkV(neg:Bool)(n d:Nat):V:=if zdO (n / Nat.gcd n d)=true∨zdO (d / Nat.gcd n d)=true then errV 2 else .tup [.str (ratT neg (n / Nat.gcd n d) (d / Nat.gcd n d)),.int .i64 0]
def zbK(a b:List UInt8):Int:=match ratP a,ratP b with
 |some (p,m,d),some (q,n,f)=>if (sumS p (m*f) (!q) (n*d)).2=0 then 0 else if (sumS p (m*f) (!q) (n*d)).1=true then -1 else 1
 |_,_=>0
def zG(a b:List UInt8):V:=match ratP a,ratP b with
 |some (p,m,d),some (q,n,f)=>mkV (sumS p (m*f) q (n*d)).1 (sumS p (m*f) q (n*d)).2 (d*f)
 |_,_=>errV 1
def zK(a b:List UInt8):V:=match ratP a,ratP b with
 |some (p,m,d),some (q,n,f)=>mkV (!(p==q)) (m*n) (d*f)
 |_,_=>errV 1
def zaW(a b:List UInt8):V:=match ratP a,ratP b with
 |some (p,m,d),some (q,n,f)=>if n=0 then errV 4 else mkV (!(p==q)) (m*f) (d*n)
 |_,_=>errV 1
theorem ze7(neg:Bool)(n d:Nat):∃ s e,mkV neg n d=.tup [.str s,.int .i64 e]:=by unfold mkV;split<;>exact⟨_,_,rfl⟩
theorem ze3(a b:List UInt8):∃ s e,zG a b=.tup [.str s,.int .i64 e]:=by
 unfold zG;split
 ·exact ze7 ..
 ·exact⟨_,_,rfl⟩
theorem zhP(a b:List UInt8):∃ s e,zK a b=.tup [.str s,.int .i64 e]:=by
 unfold zK;split
 ·exact ze7 ..
 ·exact⟨_,_,rfl⟩
theorem zhR(a b:List UInt8):∃ s e,zaW a b=.tup [.str s,.int .i64 e]:=by
 unfold zaW;split
 ·split
  ·exact⟨_,_,rfl⟩
  ·exact ze7 ..
 ·exact⟨_,_,rfl⟩
theorem zg8 {a b:List UInt8}{p q:Bool}{m d n f:Nat}(ha:ratP a=some (p,m,d))(hb:ratP b=some (q,n,f)):zbK a b=if (sumS p (m*f) (!q) (n*d)).2=0 then 0 else if (sumS p (m*f) (!q) (n*d)).1=true then -1 else 1:=by unfold zbK;generalize ratP a=x at*;generalize ratP b=y at*;subst ha hb;rfl
theorem zdg {a b:List UInt8}{p q:Bool}{m d n f:Nat}(ha:ratP a=some (p,m,d))(hb:ratP b=some (q,n,f)):zG a b=mkV (sumS p (m*f) q (n*d)).1 (sumS p (m*f) q (n*d)).2 (d*f):=by unfold zG;generalize ratP a=x at*;generalize ratP b=y at*;subst ha hb;rfl
theorem zhQ {a b:List UInt8}{p q:Bool}{m d n f:Nat}(ha:ratP a=some (p,m,d))(hb:ratP b=some (q,n,f)):zK a b=mkV (!(p==q)) (m*n) (d*f):=by unfold zK;generalize ratP a=x at*;generalize ratP b=y at*;subst ha hb;rfl
theorem zfy {a b:List UInt8}{p q:Bool}{m d n f:Nat}(ha:ratP a=some (p,m,d))(hb:ratP b=some (q,n,f)):zaW a b=if n=0 then errV 4 else mkV (!(p==q)) (m*f) (d*n):=by unfold zaW;generalize ratP a=x at*;generalize ratP b=y at*;subst ha hb;rfl
theorem zjy {a:List UInt8}(b:List UInt8)(ha:ratP a=none):zG a b=errV 1:=by unfold zG;generalize ratP a=x at*;subst ha;rfl
theorem zjx(a:List UInt8){b:List UInt8}(hb:ratP b=none):zG a b=errV 1:=by unfold zG;generalize ratP b=y at*;subst hb;cases ratP a<;>rfl
theorem zsS {a:List UInt8}(b:List UInt8)(ha:ratP a=none):zK a b=errV 1:=by unfold zK;generalize ratP a=x at*;subst ha;rfl
theorem zsR(a:List UInt8){b:List UInt8}(hb:ratP b=none):zK a b=errV 1:=by unfold zK;generalize ratP b=y at*;subst hb;cases ratP a<;>rfl
theorem zsV {a:List UInt8}(b:List UInt8)(ha:ratP a=none):zaW a b=errV 1:=by unfold zaW;generalize ratP a=x at*;subst ha;rfl
theorem zsU(a:List UInt8){b:List UInt8}(hb:ratP b=none):zaW a b=errV 1:=by unfold zaW;generalize ratP b=y at*;subst hb;cases ratP a<;>rfl
theorem zwr {a:List UInt8}(b:List UInt8)(ha:ratP a=none):zbK a b=0:=by unfold zbK;generalize ratP a=x at*;subst ha;rfl
theorem zwq(a:List UInt8){b:List UInt8}(hb:ratP b=none):zbK a b=0:=by unfold zbK;generalize ratP b=y at*;subst hb;cases ratP a<;>rfl
end Go.Proofs

namespace Go.Proofs
open Go.Ab Go.Pl
noncomputable def cR2Mul:List V→Option PR:=zD (fun p:Nat×Nat=>[.str (dec p.1),.str (dec p.2)]) (fun p=>(dec p.1).length≤1000∧(dec p.2).length≤1000∧(dec (p.1*p.2)).length≤1000) (fun p=>.ret (.tup [.str (dec (p.1*p.2)),.int .i64 0]))
theorem zzp:∀ args r,cR2Mul args=some r→PCall Tryz.prog 76 args r:=zo fun p h=>by have:=rMul_ok (dec p.1) (dec p.2);rwa [zqS h.1 h.2.1 h.2.2]at this
@[go_sem] theorem cR2Mul_eq(m n:Nat)(hm:(dec m).length≤1000)(hn:(dec n).length≤1000)(h:(dec (m*n)).length≤1000):cR2Mul [.str (dec m),.str (dec n)]=some (.ret (.tup [.str (dec (m*n)),.int .i64 0])):=
 zn (pat:=fun p:Nat×Nat=>[V.str (dec p.1),.str (dec p.2)]) (fun x y h=>by simp at h;exact Prod.ext (zX h.1) (zX h.2)) (m,n) ⟨hm,hn,h⟩
noncomputable def cR2Add:List V→Option PR:=zD (fun p:Nat×Nat=>[.str (dec p.1),.str (dec p.2)]) (fun p=>(dec p.1).length≤1000∧(dec p.2).length≤1000∧(dec (p.1+p.2)).length≤1000) (fun p=>.ret (.tup [.str (dec (p.1+p.2)),.int .i64 0]))
theorem zzr:∀ args r,cR2Add args=some r→PCall Tryz.prog 73 args r:=zo fun p h=>by have:=rAdd_ok (dec p.1) (dec p.2);rwa [zrW h.1 h.2.1 h.2.2]at this
@[go_sem] theorem cR2Add_eq(m n:Nat)(hm:(dec m).length≤1000)(hn:(dec n).length≤1000)(h:(dec (m+n)).length≤1000):cR2Add [.str (dec m),.str (dec n)]=some (.ret (.tup [.str (dec (m+n)),.int .i64 0])):=
 zn (pat:=fun p:Nat×Nat=>[V.str (dec p.1),.str (dec p.2)]) (fun x y h=>by simp at h;exact Prod.ext (zX h.1) (zX h.2)) (m,n) ⟨hm,hn,h⟩
noncomputable def cR2Sub:List V→Option PR:=zD (fun p:Nat×Nat=>[.str (dec p.1),.str (dec p.2)]) (fun p=>(dec p.1).length≤1000∧(dec p.2).length≤1000∧p.2≤p.1) (fun p=>.ret (.tup [.str (dec (p.1 - p.2)),.int .i64 0]))
theorem zzo:∀ args r,cR2Sub args=some r→PCall Tryz.prog 75 args r:=zo fun p h=>by have:=rSub_ok (dec p.1) (dec p.2);rwa [zqD h.1 h.2.1 h.2.2]at this
@[go_sem] theorem cR2Sub_eq(m n:Nat)(hm:(dec m).length≤1000)(hn:(dec n).length≤1000)(h:n≤m):cR2Sub [.str (dec m),.str (dec n)]=some (.ret (.tup [.str (dec (m - n)),.int .i64 0])):=
 zn (pat:=fun p:Nat×Nat=>[V.str (dec p.1),.str (dec p.2)]) (fun x y h=>by simp at h;exact Prod.ext (zX h.1) (zX h.2)) (m,n) ⟨hm,hn,h⟩
noncomputable def cR2Cmp:List V→Option PR:=zD (fun p:Nat×Nat=>[.str (dec p.1),.str (dec p.2)]) (fun p=>(dec p.1).length≤1000∧(dec p.2).length≤1000) (fun p=>.ret (.int .i64 (cmpI p.1 p.2)))
theorem zzq:∀ args r,cR2Cmp args=some r→PCall Tryz.prog 74 args r:=zo fun p h=>by have:=rCmp_ok (dec p.1) (dec p.2);rwa [zrx h.1 h.2]at this
@[go_sem] theorem cR2Cmp_eq(m n:Nat)(hm:(dec m).length≤1000)(hn:(dec n).length≤1000):cR2Cmp [.str (dec m),.str (dec n)]=some (.ret (.int .i64 (cmpI m n))):=
 zn (pat:=fun p:Nat×Nat=>[V.str (dec p.1),.str (dec p.2)]) (fun x y h=>by simp at h;exact Prod.ext (zX h.1) (zX h.2)) (m,n) ⟨hm,hn⟩
theorem zwu(m n:Nat)(hm:(dec m).length≤400)(hn:(dec n).length≤400):PCall Tryz.prog 44 [.str (dec m),.str (dec n)] (.ret (.str (dec (m*n)))):=by
 refine PCall.walk (rs:=[.tmp 4]) [0,1,4,5] [] mixed (zf zzp zh) (zg) call44 Tryz.func44 rfl Tryz.ntmps44 rfl (by kernel_rfl) (by simp) (by simp [push_cast]) ?_;have:=zL hm hn;simp (disch:=first|assumption|(push_cast<;>omega)|omega) only [go_sem]
noncomputable def zzh:List V→Option PR:=zD (fun p:Nat×Nat=>[.str (dec p.1),.str (dec p.2)]) (fun p=>(dec p.1).length≤400∧(dec p.2).length≤400) (fun p=>.ret (.str (dec (p.1*p.2))))
theorem zuL:∀ args r,zzh args=some r→PCall Tryz.prog 44 args r:=zo fun p h=>zwu p.1 p.2 h.1 h.2
@[go_sem] theorem cRTimes_eq(m n:Nat)(hm:(dec m).length≤400)(hn:(dec n).length≤400):zzh [.str (dec m),.str (dec n)]=some (.ret (.str (dec (m*n)))):=
 zn (pat:=fun p:Nat×Nat=>[V.str (dec p.1),.str (dec p.2)]) (fun x y h=>by simp at h;exact Prod.ext (zX h.1) (zX h.2)) (m,n) ⟨hm,hn⟩
set_option maxHeartbeats 4000000 in
theorem rSum_ok(p:Bool)(m:Nat)(q:Bool)(n:Nat)(hm:(dec m).length≤800)(hn:(dec n).length≤800):PCall Tryz.prog 43 [.bool p,.str (dec m),.bool q,.str (dec n)] (.ret (.tup [.bool (sumS p m q n).1,.str (dec (sumS p m q n).2)])):=by
 have hΓ:=zf zzr (zf zzq (zf zzo zh));refine PCall.walk (rs:=[.tmp 8,.tmp 9]) [0,1,2,3,8,9,10,12,14,18,30] [] mixed (hΓ) (zg) call43 Tryz.func43 rfl Tryz.ntmps43 rfl (by kernel_rfl) (by simp) (by simp [push_cast]) ?_;have ha:=zfa hm hn;by_cases hpq:p=q
 ·subst hpq;simp (disch:=first|assumption|(push_cast<;>omega)|omega) only [go_sem,sumS,decide_true,beq_self_eq_true]
 ·have hpq':(p==q)=false:=by simpa using hpq
  simp (disch:=first|assumption|(push_cast<;>omega)|omega) only [go_sem,hpq'];refine AXc.introP (fun h1=>?_) (fun h1=>?_)
  ·have h2:n≤m:=by
    rw [zbH]at h1
    split at h1
    ·omega
    ·omega
   simp (disch:=first|assumption|(push_cast<;>omega)|omega) only [go_sem,sumS,hpq,h2]
  ·have h2:¬n≤m:=by
    rw [zbH]at h1
    split at h1
    ·omega
    ·split at h1<;>omega
   simp (disch:=first|assumption|(push_cast<;>omega)|omega) only [go_sem,sumS,hpq,h2]
noncomputable def cRSum:List V→Option PR:=zD (fun p:Bool×Nat×Bool×Nat=>[.bool p.1,.str (dec p.2.1),.bool p.2.2.1,.str (dec p.2.2.2)]) (fun p=>(dec p.2.1).length≤800∧(dec p.2.2.2).length≤800) (fun p=>.ret (.tup [.bool (sumS p.1 p.2.1 p.2.2.1 p.2.2.2).1,.str (dec (sumS p.1 p.2.1 p.2.2.1 p.2.2.2).2)]))
theorem cRSum_ok:∀ args r,cRSum args=some r→PCall Tryz.prog 43 args r:=zo fun p h=>rSum_ok p.1 p.2.1 p.2.2.1 p.2.2.2 h.1 h.2
@[go_sem] theorem cRSum_eq(p:Bool)(m:Nat)(q:Bool)(n:Nat)(hm:(dec m).length≤800)(hn:(dec n).length≤800):cRSum [.bool p,.str (dec m),.bool q,.str (dec n)]=some (.ret (.tup [.bool (sumS p m q n).1,.str (dec (sumS p m q n).2)])):=
 zn (pat:=fun p:Bool×Nat×Bool×Nat=>[V.bool p.1,.str (dec p.2.1),.bool p.2.2.1,.str (dec p.2.2.2)]) (fun x y h=>by obtain⟨x1,x2,x3,x4⟩:=x;obtain⟨y1,y2,y3,y4⟩:=y;simp at h;obtain⟨h1,h2,h3,h4⟩:=h;rw [h1,zX h2,h3,zX h4]) (p,m,q,n) ⟨hm,hn⟩
end Go.Proofs

namespace Go.Proofs
open Go.Ab Go.Pl
theorem zcc {a:List UInt8}{s:Bool}{n d:Nat}(h:ratP a=some (s,n,d)):(dec n).length≤400∧(dec d).length≤400∧0<d:=by obtain⟨h0,_,h1,h2⟩:=za2 h;exact⟨h1,h2,h0⟩
theorem zkL(neg:Bool)(n d:Nat):ratT neg n d=(if neg=true∧n≠0 then [45]else [])++dec n++(if d=1 then []else 47::dec d):=rfl
theorem zmZ {n:Nat}:zdO n=true↔400<(dec n).length:=by simp [zdO]
set_option maxHeartbeats 4000000 in
theorem rMake_ok(neg:Bool)(n d:Nat)(ln:(dec n).length≤1000)(ld:(dec d).length≤1000)(hd:0<d):PCall Tryz.prog 45 [.bool neg,.str (dec n),.str (dec d)] (.ret (mkV neg n d)):=by
 have hΓ:=zf zaY (zf zrF (zf zrH zh));refine PCall.walk (rs:=[.tmp 6,.tmp 7]) [0,1,2,6,7,8,10,13,27,55,60,64] [] mixed (hΓ) (zg) call45 Tryz.func45 rfl Tryz.ntmps45 rfl (by kernel_rfl) (by simp) (by simp [push_cast]) ?_;have v1:=zae ln;have v2:=zae ld;have hz:decide (dec d=[48])=false:=by rw [decide_eq_false_iff_not,dec_is_zero];omega
 have lg:=zye (m:=n) hd ld;have hg:0<Nat.gcd n d:=Nat.gcd_pos_of_pos_right n hd;have le1:=zpA (n:=Nat.gcd n d) ln;have le2:=zpA (n:=Nat.gcd n d) ld;simp (disch:=first|assumption|(push_cast<;>omega)|omega) only [go_sem,v1,v2,hz];generalize hN:n / Nat.gcd n d=N at*;generalize hD:d / Nat.gcd n d=D at*;have hb:(decide (400<((dec N).length:Int))||decide (400<((dec D).length:Int)))=decide (zdO N=true∨zdO D=true):=by
  have e1:400<((dec N).length:Int)↔zdO N=true:=by rw [zmZ];omega
  have e2:400<((dec D).length:Int)↔zdO D=true:=by rw [zmZ];omega
  simp only [e1,e2,Bool.decide_or]
 rw [hb];have hzN:decide (dec N=[48])=decide (N=0):=by simp only [dec_is_zero]
 unfold mkV;rw [hN,hD];refine AXc.introP (fun h1=>?_) (fun h1=>?_)
 ·rw [if_pos h1];simp only [go_sem,errV]
 ·rw [if_neg h1];simp (disch:=first|assumption|(push_cast<;>omega)|omega) only [go_sem,hzN];have hbn:(neg&& !decide (N=0))=decide (neg=true∧N≠0):=by rw [Bool.eq_iff_iff];simp
  rw [hbn];refine AXc.introP (fun h2=>?_) (fun h2=>?_)
  ·simp (disch:=first|assumption|(push_cast<;>omega)|omega) only [go_sem,zaS]
   (repeat refine sdC ?_);refine AXc.introP (fun h3=>?_) (fun h3=>?_)
   ·simp (disch:=first|assumption|(push_cast<;>omega)|omega) only [go_sem];rw [zkL,if_pos h2,if_pos h3,List.append_nil];all_goals simp
   ·simp (disch:=first|assumption|(push_cast<;>omega)|omega) only [go_sem];rw [zkL,if_pos h2,if_neg h3];simp;omega
  ·simp (disch:=first|assumption|(push_cast<;>omega)|omega) only [go_sem,zaS];refine AXc.introP (fun h3=>?_) (fun h3=>?_)
   ·simp (disch:=first|assumption|(push_cast<;>omega)|omega) only [go_sem];rw [zkL,if_neg h2,if_pos h3,List.append_nil];simp
   ·simp (disch:=first|assumption|(push_cast<;>omega)|omega) only [go_sem];rw [zkL,if_neg h2,if_neg h3];simp;omega
end Go.Proofs

namespace Go.Proofs
open Go.Ab Go.Pl
noncomputable def cRMake:List V→Option PR:=zD (fun p:Bool×Nat×Nat=>[.bool p.1,.str (dec p.2.1),.str (dec p.2.2)]) (fun p=>(dec p.2.1).length≤1000∧(dec p.2.2).length≤1000∧0<p.2.2) (fun p=>.ret (mkV p.1 p.2.1 p.2.2))
theorem zzj:∀ args r,cRMake args=some r→PCall Tryz.prog 45 args r:=zo fun p h=>rMake_ok p.1 p.2.1 p.2.2 h.1 h.2.1 h.2.2
@[go_sem] theorem cRMake_eq(neg:Bool)(n d:Nat)(ln:(dec n).length≤1000)(ld:(dec d).length≤1000)(hd:0<d):cRMake [.bool neg,.str (dec n),.str (dec d)]=some (.ret (mkV neg n d)):=
 zn (pat:=fun p:Bool×Nat×Nat=>[V.bool p.1,.str (dec p.2.1),.str (dec p.2.2)]) (fun x y h=>by obtain⟨x1,x2,x3⟩:=x;obtain⟨y1,y2,y3⟩:=y;simp at h;obtain⟨h1,h2,h3⟩:=h;rw [h1,zX h2,zX h3]) (neg,n,d) ⟨ln,ld,hd⟩
set_option maxHeartbeats 4000000 in
set_option maxRecDepth 100000 in
theorem r3Add_ok(a b:List UInt8)(la:a.length≤1000000000)(lb:b.length≤1000000000):PCall Tryz.prog 16 [.str a,.str b] (.ret (zG a b)):=by
 have hΓ:=zf zuN (zf zuL (zf cRSum_ok (zf zzj zh)));refine PCall.walk (rs:=[.tmp 4,.tmp 5]) [0,1,4,5,6,7,8,9,10,11,12,13,14,15,35] [] mixed (hΓ) (zg) call16 Tryz.func16 rfl Tryz.ntmps16 rfl (by kernel_rfl) (by simp) (by simp [push_cast]) ?_;cases ha:ratP a with
 |none=>
  rw [zjy b ha];cases hb:ratP b with
  |none=>simp (disch:=first|assumption|(push_cast<;>omega)|omega) only [go_sem,ha,hb,errV]
  |some y=>
   obtain⟨q,n,f⟩:=y;simp (disch:=first|assumption|(push_cast<;>omega)|omega) only [go_sem,ha,hb,errV]
 |some x=>
  obtain⟨p,m,d⟩:=x;cases hb:ratP b with
  |none=>
   rw [zjx a hb];simp (disch:=first|assumption|(push_cast<;>omega)|omega) only [go_sem,ha,hb,errV]
  |some y=>
   obtain⟨q,n,f⟩:=y;rw [zdg ha hb];obtain⟨lm,ld,d0⟩:=zcc ha;obtain⟨ln,lf,f0⟩:=zcc hb;have l1:=zL lm lf;have l2:=zL ln ld;have l3:=zL ld lf;have l4:=zL lm ln;have l5:=zL ld ln;have h0:=Nat.mul_pos d0 f0;have l6:=zg2 (p:=p) (q:=q) l1 l2;obtain⟨s,e,hse⟩:=ze7 (sumS p (m*f) q (n*d)).1 (sumS p (m*f) q (n*d)).2 (d*f);simp (disch:=first|assumption|(push_cast<;>omega)|omega) only [go_sem,ha,hb,hse]
noncomputable def zzn:List V→Option PR:=zD (fun p:List UInt8×List UInt8=>[.str p.1,.str p.2]) (fun p=>p.1.length≤1000000000∧p.2.length≤1000000000) (fun p=>.ret (zG p.1 p.2))
theorem zzm:∀ args r,zzn args=some r→PCall Tryz.prog 16 args r:=zo fun p h=>r3Add_ok p.1 p.2 h.1 h.2
end Go.Proofs

namespace Go.Proofs
open Go.Ab Go.Pl
end Go.Proofs

namespace Go.Ab
structure Row(α:Type) where
 enc:α→List V
 n:Nat
 dflt:α
 len:∀ a,(enc a).length=n
 pos:0<n
 pure:∀ a,∀ x∈enc a,Pure x
 one:∀ a,(enc a).all V.one=true
 inj:∀ a b,enc a=enc b→a=b
namespace Row
variable {α:Type}(R:Row α)
def cells(l:List α):List V:=l.flatMap R.enc
def nth(l:List α)(i:Nat):α:=l.getD i R.dflt
theorem zyS:R.cells []=[]:=rfl
theorem zdq(e:α)(l:List α):R.cells (e::l)=R.enc e++R.cells l:=rfl
theorem len_cells:∀ l:List α,(R.cells l).length=l.length*R.n
 |[]=>by simp [cells]
 |e::l=>by rw [zdq,List.length_append,R.len,len_cells l,List.length_cons,Nat.add_mul,Nat.one_mul,Nat.add_comm]
theorem zjZ:∀(l:List α) (i:Nat),(R.cells l).drop (i*R.n)=R.cells (l.drop i)
 |l,0=>by simp
 |[],i+1=>by simp [zyS]
 |e::l,i+1=>by rw [zdq,Nat.add_mul,Nat.one_mul,Nat.add_comm, ←List.drop_drop,show R.n=(R.enc e).length by rw [R.len],List.drop_left,R.len];exact zjZ l i
theorem drop_nth:∀(l:List α) (i:Nat),i<l.length→l.drop i=R.nth l i::l.drop (i+1)
 |[],_,h=>by simp at h
 |e::l,0,_=>rfl
 |e::l,i+1,h=>by have:=drop_nth l i (by simpa using h);simpa [nth] using this
theorem nth_mem {l:List α}{i:Nat}(h:i<l.length):R.nth l i∈l:=by unfold nth;rw [List.getD_eq_getElem?_getD,List.getElem?_eq_getElem h];exact List.getElem_mem h
theorem at_(l:List α)(i:Nat)(h:i<l.length):(R.cells l).drop (i*R.n)=R.enc (R.nth l i)++R.cells (l.drop (i+1)):=by rw [zjZ,R.drop_nth l i h,zdq]
theorem pure_cells(l:List α):∀ x∈R.cells l,Pure x:=fun x h=>by obtain⟨a,_,h⟩:=List.mem_flatMap.1 h;exact R.pure a x h
theorem pure_cellsP(l:List α):(∀ x∈R.cells l,Pure x)↔True:=⟨fun _=>trivial,fun _=>R.pure_cells l⟩
theorem one_cells(l:List α):(R.cells l).all V.one=true:=List.all_eq_true.2 fun x h=>by obtain⟨a,_,h⟩:=List.mem_flatMap.1 h;exact List.all_eq_true.1 (R.one a) x h
theorem cells_inj:∀ {l r:List α},R.cells l=R.cells r→l=r
 |[],[],_=>rfl
 |[],e::r,h=>by have:=congrArg List.length h;rw [len_cells,len_cells,List.length_cons,Nat.add_mul]at this;have:=R.pos;simp at *; omega
 |e::l,[],h=>by have:=congrArg List.length h;rw [len_cells,len_cells,List.length_cons,Nat.add_mul]at this;have:=R.pos;simp at *; omega
 |e::l,e'::r,h=>by rw [zdq,zdq]at h;obtain⟨h1,h2⟩:=List.append_inj h (by rw [R.len,R.len]);rw [R.inj _ _ h1,cells_inj h2]
theorem lrel_cells {π:Nat→Nat}{N:Nat→Prop}(l:List α):LRel (Rn π N) (R.cells l) (R.cells l)↔True:=⟨fun _=>trivial,fun _=>zu (R.pure_cells l)⟩
theorem all_t {p:α→Bool}{l:List α}(h:∀ i,i<l.length→p (R.nth l i)=true):l.all p=true:=by refine List.all_eq_true.2 fun x hx=>?_;obtain⟨i,hi,rfl⟩:=List.mem_iff_getElem.1 hx;have:=h i hi;unfold nth at this;rwa [List.getD_eq_getElem?_getD,List.getElem?_eq_getElem hi]at this
theorem all_f {p:α→Bool}{l:List α}{i:Nat}(hi:i<l.length)(h:p (R.nth l i)=false):l.all p=false:=by
 cases e:l.all p with
 |false=>rfl
 |true=>rw [List.all_eq_true.1 e _ (R.nth_mem hi)]at h;cases h
end Row
end Go.Ab
