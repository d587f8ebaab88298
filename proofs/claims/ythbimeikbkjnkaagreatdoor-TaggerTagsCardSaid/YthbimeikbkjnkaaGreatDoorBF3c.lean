/- The reference's rational numbers: products and sums of integers. -/
import Derived.Test.YthbimeikbkjnkaaGreatDoorBF3a
set_option linter.all false
namespace Go.Proofs
open Go.Ab Go.Pl
noncomputable def cR2Mul:List V→Option PR:=zB (fun p:Nat×Nat=>[.str (dec p.1),.str (dec p.2)]) (fun p=>(dec p.1).length≤1000∧(dec p.2).length≤1000∧(dec (p.1*p.2)).length≤1000) (fun p=>.ret (.tup [.str (dec (p.1*p.2)),.int .i64 0]))
theorem zy7:∀ args r,cR2Mul args=some r→PCall Tryz.prog 89 args r:=zn fun p h=>by have:=rMul_ok (dec p.1) (dec p.2);rwa [zqb h.1 h.2.1 h.2.2]at this
@[go_sem] theorem cR2Mul_eq(m n:Nat)(hm:(dec m).length≤1000)(hn:(dec n).length≤1000)(h:(dec (m*n)).length≤1000):cR2Mul [.str (dec m),.str (dec n)]=some (.ret (.tup [.str (dec (m*n)),.int .i64 0])):=
 zo (pat:=fun p:Nat×Nat=>[V.str (dec p.1),.str (dec p.2)]) (fun x y h=>by simp at h;exact Prod.ext (zQ h.1) (zQ h.2)) (m,n) ⟨hm,hn,h⟩
noncomputable def cR2Add:List V→Option PR:=zB (fun p:Nat×Nat=>[.str (dec p.1),.str (dec p.2)]) (fun p=>(dec p.1).length≤1000∧(dec p.2).length≤1000∧(dec (p.1+p.2)).length≤1000) (fun p=>.ret (.tup [.str (dec (p.1+p.2)),.int .i64 0]))
theorem zy9:∀ args r,cR2Add args=some r→PCall Tryz.prog 86 args r:=zn fun p h=>by have:=rAdd_ok (dec p.1) (dec p.2);rwa [zri h.1 h.2.1 h.2.2]at this
@[go_sem] theorem cR2Add_eq(m n:Nat)(hm:(dec m).length≤1000)(hn:(dec n).length≤1000)(h:(dec (m+n)).length≤1000):cR2Add [.str (dec m),.str (dec n)]=some (.ret (.tup [.str (dec (m+n)),.int .i64 0])):=
 zo (pat:=fun p:Nat×Nat=>[V.str (dec p.1),.str (dec p.2)]) (fun x y h=>by simp at h;exact Prod.ext (zQ h.1) (zQ h.2)) (m,n) ⟨hm,hn,h⟩
noncomputable def cR2Sub:List V→Option PR:=zB (fun p:Nat×Nat=>[.str (dec p.1),.str (dec p.2)]) (fun p=>(dec p.1).length≤1000∧(dec p.2).length≤1000∧p.2≤p.1) (fun p=>.ret (.tup [.str (dec (p.1 - p.2)),.int .i64 0]))
theorem zy6:∀ args r,cR2Sub args=some r→PCall Tryz.prog 88 args r:=zn fun p h=>by have:=rSub_ok (dec p.1) (dec p.2);rwa [zpR h.1 h.2.1 h.2.2]at this
@[go_sem] theorem cR2Sub_eq(m n:Nat)(hm:(dec m).length≤1000)(hn:(dec n).length≤1000)(h:n≤m):cR2Sub [.str (dec m),.str (dec n)]=some (.ret (.tup [.str (dec (m - n)),.int .i64 0])):=
 zo (pat:=fun p:Nat×Nat=>[V.str (dec p.1),.str (dec p.2)]) (fun x y h=>by simp at h;exact Prod.ext (zQ h.1) (zQ h.2)) (m,n) ⟨hm,hn,h⟩
noncomputable def cR2Cmp:List V→Option PR:=zB (fun p:Nat×Nat=>[.str (dec p.1),.str (dec p.2)]) (fun p=>(dec p.1).length≤1000∧(dec p.2).length≤1000) (fun p=>.ret (.int .i64 (cmpI p.1 p.2)))
theorem zy8:∀ args r,cR2Cmp args=some r→PCall Tryz.prog 87 args r:=zn fun p h=>by have:=rCmp_ok (dec p.1) (dec p.2);rwa [zqN h.1 h.2]at this
@[go_sem] theorem cR2Cmp_eq(m n:Nat)(hm:(dec m).length≤1000)(hn:(dec n).length≤1000):cR2Cmp [.str (dec m),.str (dec n)]=some (.ret (.int .i64 (cmpI m n))):=
 zo (pat:=fun p:Nat×Nat=>[V.str (dec p.1),.str (dec p.2)]) (fun x y h=>by simp at h;exact Prod.ext (zQ h.1) (zQ h.2)) (m,n) ⟨hm,hn⟩
theorem zvU(m n:Nat)(hm:(dec m).length≤400)(hn:(dec n).length≤400):PCall Tryz.prog 56 [.str (dec m),.str (dec n)] (.ret (.str (dec (m*n)))):=by
 refine PCall.walk (rs:=[.tmp 4]) [0,1,4,5] [] mixed (zg zy7 zh) (zf) call56 Tryz.func56 rfl Tryz.ntmps56 rfl (by kernel_rfl) (by simp) (by simp [push_cast]) ?_;have:=zac hm hn;simp (disch:=first|assumption|(push_cast<;>omega)|omega) only [go_sem]
noncomputable def zyU:List V→Option PR:=zB (fun p:Nat×Nat=>[.str (dec p.1),.str (dec p.2)]) (fun p=>(dec p.1).length≤400∧(dec p.2).length≤400) (fun p=>.ret (.str (dec (p.1*p.2))))
theorem zjd:∀ args r,zyU args=some r→PCall Tryz.prog 56 args r:=zn fun p h=>zvU p.1 p.2 h.1 h.2
@[go_sem] theorem cRTimes_eq(m n:Nat)(hm:(dec m).length≤400)(hn:(dec n).length≤400):zyU [.str (dec m),.str (dec n)]=some (.ret (.str (dec (m*n)))):=
 zo (pat:=fun p:Nat×Nat=>[V.str (dec p.1),.str (dec p.2)]) (fun x y h=>by simp at h;exact Prod.ext (zQ h.1) (zQ h.2)) (m,n) ⟨hm,hn⟩
set_option maxHeartbeats 4000000 in
theorem rSum_ok(p:Bool)(m:Nat)(q:Bool)(n:Nat)(hm:(dec m).length≤800)(hn:(dec n).length≤800):PCall Tryz.prog 55 [.bool p,.str (dec m),.bool q,.str (dec n)] (.ret (.tup [.bool (sumS p m q n).1,.str (dec (sumS p m q n).2)])):=by
 have hΓ:=zg zy9 (zg zy8 (zg zy6 zh));refine PCall.walk (rs:=[.tmp 8,.tmp 9]) [0,1,2,3,8,9,10,12,14,18,30] [] mixed (hΓ) (zf) call55 Tryz.func55 rfl Tryz.ntmps55 rfl (by kernel_rfl) (by simp) (by simp [push_cast]) ?_;have ha:=zeA hm hn;by_cases hpq:p=q
 ·subst hpq;simp (disch:=first|assumption|(push_cast<;>omega)|omega) only [go_sem,sumS,decide_true,beq_self_eq_true]
 ·have hpq':(p==q)=false:=by simpa using hpq
  simp (disch:=first|assumption|(push_cast<;>omega)|omega) only [go_sem,hpq'];refine AXc.introP (fun h1=>?_) (fun h1=>?_)
  ·have h2:n≤m:=by
    rw [zbx]at h1
    split at h1
    ·omega
    ·omega
   simp (disch:=first|assumption|(push_cast<;>omega)|omega) only [go_sem,sumS,hpq,h2]
  ·have h2:¬n≤m:=by
    rw [zbx]at h1
    split at h1
    ·omega
    ·split at h1<;>omega
   simp (disch:=first|assumption|(push_cast<;>omega)|omega) only [go_sem,sumS,hpq,h2]
noncomputable def cRSum:List V→Option PR:=zB (fun p:Bool×Nat×Bool×Nat=>[.bool p.1,.str (dec p.2.1),.bool p.2.2.1,.str (dec p.2.2.2)]) (fun p=>(dec p.2.1).length≤800∧(dec p.2.2.2).length≤800) (fun p=>.ret (.tup [.bool (sumS p.1 p.2.1 p.2.2.1 p.2.2.2).1,.str (dec (sumS p.1 p.2.1 p.2.2.1 p.2.2.2).2)]))
theorem zqU:∀ args r,cRSum args=some r→PCall Tryz.prog 55 args r:=zn fun p h=>rSum_ok p.1 p.2.1 p.2.2.1 p.2.2.2 h.1 h.2
@[go_sem] theorem cRSum_eq(p:Bool)(m:Nat)(q:Bool)(n:Nat)(hm:(dec m).length≤800)(hn:(dec n).length≤800):cRSum [.bool p,.str (dec m),.bool q,.str (dec n)]=some (.ret (.tup [.bool (sumS p m q n).1,.str (dec (sumS p m q n).2)])):=
 zo (pat:=fun p:Bool×Nat×Bool×Nat=>[V.bool p.1,.str (dec p.2.1),.bool p.2.2.1,.str (dec p.2.2.2)]) (fun x y h=>by obtain⟨x1,x2,x3,x4⟩:=x;obtain⟨y1,y2,y3,y4⟩:=y;simp at h;obtain⟨h1,h2,h3,h4⟩:=h;rw [h1,zQ h2,h3,zQ h4]) (p,m,q,n) ⟨hm,hn⟩
end Go.Proofs

namespace Go.Proofs
open Go.Ab Go.Pl
theorem zcE {a:List UInt8}{s:Bool}{n d:Nat}(h:ratP a=some (s,n,d)):(dec n).length≤400∧(dec d).length≤400∧0<d:=by obtain⟨h0,_,h1,h2⟩:=za3 h;exact⟨h1,h2,h0⟩
set_option maxHeartbeats 4000000 in
set_option maxRecDepth 100000 in
theorem r3Cmp_ok(a b:List UInt8)(la:a.length≤1000000000)(lb:b.length≤1000000000):PCall Tryz.prog 30 [.str a,.str b] (.ret (.int .i64 (zaD a b))):=by
 have hΓ:=zg zfO (zg zjd (zg zqU zh));refine PCall.walk (rs:=[.tmp 4]) [0,1,4,5,6,7,8,9,10,11,12,13,14,34,48,51] [] mixed (hΓ) (zf) call30 Tryz.func30 rfl Tryz.ntmps30 rfl (by kernel_rfl) (by simp) (by simp [push_cast]) ?_;cases ha:ratP a with
 |none=>
  rw [zlP b ha];cases hb:ratP b with
  |none=>simp (disch:=first|assumption|(push_cast<;>omega)|omega) only [go_sem,ha,hb]
  |some y=>
   obtain⟨q,n,f⟩:=y;simp (disch:=first|assumption|(push_cast<;>omega)|omega) only [go_sem,ha,hb]
 |some x=>
  obtain⟨p,m,d⟩:=x;cases hb:ratP b with
  |none=>
   rw [zlO a hb];simp (disch:=first|assumption|(push_cast<;>omega)|omega) only [go_sem,ha,hb]
  |some y=>
   obtain⟨q,n,f⟩:=y;rw [zee ha hb];obtain⟨lm,ld,_⟩:=zcE ha;obtain⟨ln,lf,_⟩:=zcE hb;have l1:=zac lm lf;have l2:=zac ln ld;simp (disch:=first|assumption|(push_cast<;>omega)|omega) only [go_sem,ha,hb];have hz:decide (dec (sumS p (m*f) (!q) (n*d)).2=[48])=decide ((sumS p (m*f) (!q) (n*d)).2=0):=by simp only [dec_is_zero]
   rw [hz];refine AXc.introP (fun h1=>?_) (fun h1=>?_)
   ·simp (disch:=first|assumption|(push_cast<;>omega)|omega) only [go_sem,h1]
   ·cases h2:(sumS p (m*f) (!q) (n*d)).1
    ·simp (disch:=first|assumption|(push_cast<;>omega)|omega) only [go_sem,h1,h2,Bool.false_eq_true]
    ·simp (disch:=first|assumption|(push_cast<;>omega)|omega) only [go_sem,h1,h2]
theorem zj0(neg:Bool)(n d:Nat):ratT neg n d=(if neg=true∧n≠0 then [45]else [])++dec n++(if d=1 then []else 47::dec d):=rfl
theorem zhm {n:Nat}:zdp n=true↔400<(dec n).length:=by simp [zdp]
set_option maxHeartbeats 4000000 in
theorem rMake_ok(neg:Bool)(n d:Nat)(ln:(dec n).length≤1000)(ld:(dec d).length≤1000)(hd:0<d):PCall Tryz.prog 82 [.bool neg,.str (dec n),.str (dec d)] (.ret (mkV neg n d)):=by
 have hΓ:=zg zaM (zg zqV (zg zqX zh));refine PCall.walk (rs:=[.tmp 6,.tmp 7]) [0,1,2,6,7,8,10,13,27,55,60,64] [] mixed (hΓ) (zf) call82 Tryz.func82 rfl Tryz.ntmps82 rfl (by kernel_rfl) (by simp) (by simp [push_cast]) ?_;have v1:=zX ln;have v2:=zX ld;have hz:decide (dec d=[48])=false:=by rw [decide_eq_false_iff_not,dec_is_zero];omega
 have lg:=zxw (m:=n) hd ld;have hg:0<Nat.gcd n d:=Nat.gcd_pos_of_pos_right n hd;have le1:=zoV (n:=Nat.gcd n d) ln;have le2:=zoV (n:=Nat.gcd n d) ld;simp (disch:=first|assumption|(push_cast<;>omega)|omega) only [go_sem,v1,v2,hz];generalize hN:n / Nat.gcd n d=N at*;generalize hD:d / Nat.gcd n d=D at*;have hb:(decide (400<((dec N).length:Int))||decide (400<((dec D).length:Int)))=decide (zdp N=true∨zdp D=true):=by
  have e1:400<((dec N).length:Int)↔zdp N=true:=by rw [zhm];omega
  have e2:400<((dec D).length:Int)↔zdp D=true:=by rw [zhm];omega
  simp only [e1,e2,Bool.decide_or]
 rw [hb];have hzN:decide (dec N=[48])=decide (N=0):=by simp only [dec_is_zero]
 unfold mkV;rw [hN,hD];refine AXc.introP (fun h1=>?_) (fun h1=>?_)
 ·rw [if_pos h1];simp only [go_sem,errV]
 ·rw [if_neg h1];simp (disch:=first|assumption|(push_cast<;>omega)|omega) only [go_sem,hzN];have hbn:(neg&& !decide (N=0))=decide (neg=true∧N≠0):=by rw [Bool.eq_iff_iff];simp
  rw [hbn];refine AXc.introP (fun h2=>?_) (fun h2=>?_)
  ·simp (disch:=first|assumption|(push_cast<;>omega)|omega) only [go_sem,zaK]
   (repeat refine sdC ?_);refine AXc.introP (fun h3=>?_) (fun h3=>?_)
   ·simp (disch:=first|assumption|(push_cast<;>omega)|omega) only [go_sem];rw [zj0,if_pos h2,if_pos h3,List.append_nil];all_goals simp
   ·simp (disch:=first|assumption|(push_cast<;>omega)|omega) only [go_sem];rw [zj0,if_pos h2,if_neg h3];simp;omega
  ·simp (disch:=first|assumption|(push_cast<;>omega)|omega) only [go_sem,zaK];refine AXc.introP (fun h3=>?_) (fun h3=>?_)
   ·simp (disch:=first|assumption|(push_cast<;>omega)|omega) only [go_sem];rw [zj0,if_neg h2,if_pos h3,List.append_nil];simp
   ·simp (disch:=first|assumption|(push_cast<;>omega)|omega) only [go_sem];rw [zj0,if_neg h2,if_neg h3];simp;omega
end Go.Proofs

namespace Go.Proofs
open Go.Ab Go.Pl
theorem parseV_s {a:List UInt8}{s:Bool}{n d:Nat}(hr:ratP a=some (s,n,d)):zdS a=.tup [.agg [.bool s,.str (dec n),.str (dec d)],.bool true]:=by unfold zdS;generalize ratP a=q at hr;subst hr;rfl
theorem parseV_n {a:List UInt8}(hr:ratP a=none):zdS a=.tup [.agg [.bool false,.str [],.str []],.bool false]:=by unfold zdS;generalize ratP a=q at hr;subst hr;rfl
noncomputable def zqZ:List V→Option PR:=zB (fun a:List UInt8=>[.str a]) (fun a=>a.length≤1000000000) fun a=>.ret (zdS a)
theorem zm2(a:List UInt8)(h:a.length≤1000000000):zqZ [.str a]=some (.ret (zdS a)):=zo (pat:=fun a:List UInt8=>[V.str a]) (fun x y h=>by simpa using h) a h
theorem zhI:∀ args r,zqZ args=some r→PCall Tryz.prog 116 args r:=zn fun a h=>parse_ok a h
@[go_sem] theorem cParse_s {a:List UInt8}{s:Bool}{n d:Nat}(hr:ratP a=some (s,n,d))(h:a.length≤1000000000):zqZ [.str a]=some (.ret (.tup [.agg [.bool s,.str (dec n),.str (dec d)],.bool true])):=
 (zm2 a h).trans (congrArg (fun v=>some (PR.ret v)) (parseV_s hr))
@[go_sem] theorem cParse_n {a:List UInt8}(hr:ratP a=none)(h:a.length≤1000000000):zqZ [.str a]=some (.ret (.tup [.agg [.bool false,.str [],.str []],.bool false])):=
 (zm2 a h).trans (congrArg (fun v=>some (PR.ret v)) (parseV_n hr))
theorem zn2(a:List UInt8)(h:a.length≤1000000000):PCall Tryz.prog 145 [.str a] (.ret (.bool (ratP a).isSome)):=by
 refine PCall.walk (rs:=[.tmp 2]) [0,2] [] mixed (zg zhI zh) (zf) call145 Tryz.func145 rfl Tryz.ntmps145 rfl (by kernel_rfl) (by simp) (by simp [push_cast]) ?_;cases hr:ratP a with
 |none=>simp (disch:=first|assumption|(push_cast<;>omega)|omega) only [go_sem,hr,Option.isSome_none]
 |some q=>
  obtain⟨s,n,d⟩:=q;simp (disch:=first|assumption|(push_cast<;>omega)|omega) only [go_sem,hr,Option.isSome_some]
noncomputable def zmU:List V→Option PR:=zB (fun a:List UInt8=>[.str a]) (fun a=>a.length≤1000000000) fun a=>.ret (.bool (ratP a).isSome)
@[go_sem] theorem cRatValid_eq(a:List UInt8)(h:a.length≤1000000000):zmU [.str a]=some (.ret (.bool (ratP a).isSome)):=zo (pat:=fun a:List UInt8=>[V.str a]) (fun x y h=>by simpa using h) a h
theorem zmT:∀ args r,zmU args=some r→PCall Tryz.prog 145 args r:=zn fun a h=>zn2 a h
set_option maxHeartbeats 8000000 in
set_option maxRecDepth 100000 in
theorem zvS(a b:List UInt8)(la:a.length≤1000000000)(lb:b.length≤1000000000):PCall Tryz.prog 70 [.str a,.str b] (.ret (.int .i64 (zaD a b))):=by
 have hΓ:=zg zhI (zg zq0 (zg zfj (zg zm3 zh)));refine PCall.walk (rs:=[.tmp 4]) [0,1,4,5,6,7,8,9,10,26,52,55] [] mixed (hΓ) (zf) call70 Tryz.func70 rfl Tryz.ntmps70 rfl (by kernel_rfl) (by simp) (by simp [push_cast]) ?_;cases ha:ratP a with
 |none=>
  rw [zlP b ha];cases hb:ratP b with
  |none=>simp (disch:=first|assumption|(push_cast<;>omega)|omega) only [go_sem,ha,hb]
  |some y=>
   obtain⟨q,n,f⟩:=y;simp (disch:=first|assumption|(push_cast<;>omega)|omega) only [go_sem,ha,hb]
 |some x=>
  obtain⟨p,m,d⟩:=x;cases hb:ratP b with
  |none=>
   rw [zlO a hb];simp (disch:=first|assumption|(push_cast<;>omega)|omega) only [go_sem,ha,hb]
  |some y=>
   obtain⟨q,n,f⟩:=y;rw [zee ha hb];obtain⟨lm,ld,_⟩:=zcE ha;obtain⟨ln,lf,_⟩:=zcE hb;have l1:=zac lm lf;have l2:=zac ln ld;simp (disch:=first|assumption|(push_cast<;>omega)|omega) only [go_sem,ha,hb];refine AXk.intro (by kernel_rfl) ?_;have hz:decide (dec (sumS p (m*f) (!q) (n*d)).2=[48])=decide ((sumS p (m*f) (!q) (n*d)).2=0):=by simp only [dec_is_zero]
   simp (disch:=first|assumption|(push_cast<;>omega)|omega) only [go_sem];rw [hz];refine AXc.introP (fun h1=>?_) (fun h1=>?_)
   ·simp (disch:=first|assumption|(push_cast<;>omega)|omega) only [go_sem,h1]
   ·cases h2:(sumS p (m*f) (!q) (n*d)).1
    ·simp (disch:=first|assumption|(push_cast<;>omega)|omega) only [go_sem,h1,h2,Bool.false_eq_true]
    ·simp (disch:=first|assumption|(push_cast<;>omega)|omega) only [go_sem,h1,h2]
noncomputable def zyS:List V→Option PR:=zB (fun p:List UInt8×List UInt8=>[.str p.1,.str p.2]) (fun p=>p.1.length≤1000000000∧p.2.length≤1000000000) (fun p=>.ret (.int .i64 (zaD p.1 p.2)))
theorem zjc:∀ args r,zyS args=some r→PCall Tryz.prog 70 args r:=zn fun p h=>zvS p.1 p.2 h.1 h.2
@[go_sem] theorem zt1(a b:List UInt8)(la:a.length≤1000000000)(lb:b.length≤1000000000):zyS [.str a,.str b]=some (.ret (.int .i64 (zaD a b))):=zo (fun p q h=>by simp at h;exact Prod.ext h.1 h.2) (a,b) ⟨la,lb⟩
end Go.Proofs
