/- The reference's rational numbers: products and sums of integers. -/
import Derived.Test.YthbimeikbkjnkaaGreatDoorF3a
import Derived.Test.YthbimeikbkjnkaaGreatDoorF2g
import Derived.Test.YthbimeikbkjnkaaGreatDoorAbEvP
set_option linter.all false
namespace Go.Proofs
open Go.Ab Go.Pl
noncomputable def cR2Mul:List V→Option PR:=zB (fun p:Nat×Nat=>[.str (dec p.1),.str (dec p.2)]) (fun p=>(dec p.1).length≤1000∧(dec p.2).length≤1000∧(dec (p.1*p.2)).length≤1000) (fun p=>.ret (.tup [.str (dec (p.1*p.2)),.int .i64 0]))
theorem zyU:∀ args r,cR2Mul args=some r→PCall Tryz.prog 89 args r:=zn fun p h=>by have:=rMul_ok (dec p.1) (dec p.2);rwa [zp6 h.1 h.2.1 h.2.2]at this
@[go_sem] theorem cR2Mul_eq(m n:Nat)(hm:(dec m).length≤1000)(hn:(dec n).length≤1000)(h:(dec (m*n)).length≤1000):cR2Mul [.str (dec m),.str (dec n)]=some (.ret (.tup [.str (dec (m*n)),.int .i64 0])):=
 zo (pat:=fun p:Nat×Nat=>[V.str (dec p.1),.str (dec p.2)]) (fun x y h=>by simp at h;exact Prod.ext (zS h.1) (zS h.2)) (m,n) ⟨hm,hn,h⟩
noncomputable def cR2Add:List V→Option PR:=zB (fun p:Nat×Nat=>[.str (dec p.1),.str (dec p.2)]) (fun p=>(dec p.1).length≤1000∧(dec p.2).length≤1000∧(dec (p.1+p.2)).length≤1000) (fun p=>.ret (.tup [.str (dec (p.1+p.2)),.int .i64 0]))
theorem zyW:∀ args r,cR2Add args=some r→PCall Tryz.prog 86 args r:=zn fun p h=>by have:=rAdd_ok (dec p.1) (dec p.2);rwa [zqZ h.1 h.2.1 h.2.2]at this
@[go_sem] theorem cR2Add_eq(m n:Nat)(hm:(dec m).length≤1000)(hn:(dec n).length≤1000)(h:(dec (m+n)).length≤1000):cR2Add [.str (dec m),.str (dec n)]=some (.ret (.tup [.str (dec (m+n)),.int .i64 0])):=
 zo (pat:=fun p:Nat×Nat=>[V.str (dec p.1),.str (dec p.2)]) (fun x y h=>by simp at h;exact Prod.ext (zS h.1) (zS h.2)) (m,n) ⟨hm,hn,h⟩
noncomputable def cR2Sub:List V→Option PR:=zB (fun p:Nat×Nat=>[.str (dec p.1),.str (dec p.2)]) (fun p=>(dec p.1).length≤1000∧(dec p.2).length≤1000∧p.2≤p.1) (fun p=>.ret (.tup [.str (dec (p.1 - p.2)),.int .i64 0]))
theorem zyT:∀ args r,cR2Sub args=some r→PCall Tryz.prog 88 args r:=zn fun p h=>by have:=rSub_ok (dec p.1) (dec p.2);rwa [zpN h.1 h.2.1 h.2.2]at this
@[go_sem] theorem cR2Sub_eq(m n:Nat)(hm:(dec m).length≤1000)(hn:(dec n).length≤1000)(h:n≤m):cR2Sub [.str (dec m),.str (dec n)]=some (.ret (.tup [.str (dec (m - n)),.int .i64 0])):=
 zo (pat:=fun p:Nat×Nat=>[V.str (dec p.1),.str (dec p.2)]) (fun x y h=>by simp at h;exact Prod.ext (zS h.1) (zS h.2)) (m,n) ⟨hm,hn,h⟩
noncomputable def cR2Cmp:List V→Option PR:=zB (fun p:Nat×Nat=>[.str (dec p.1),.str (dec p.2)]) (fun p=>(dec p.1).length≤1000∧(dec p.2).length≤1000) (fun p=>.ret (.int .i64 (cmpI p.1 p.2)))
theorem zyV:∀ args r,cR2Cmp args=some r→PCall Tryz.prog 87 args r:=zn fun p h=>by have:=rCmp_ok (dec p.1) (dec p.2);rwa [zqD h.1 h.2]at this
@[go_sem] theorem cR2Cmp_eq(m n:Nat)(hm:(dec m).length≤1000)(hn:(dec n).length≤1000):cR2Cmp [.str (dec m),.str (dec n)]=some (.ret (.int .i64 (cmpI m n))):=
 zo (pat:=fun p:Nat×Nat=>[V.str (dec p.1),.str (dec p.2)]) (fun x y h=>by simp at h;exact Prod.ext (zS h.1) (zS h.2)) (m,n) ⟨hm,hn⟩
theorem zvE(m n:Nat)(hm:(dec m).length≤400)(hn:(dec n).length≤400):PCall Tryz.prog 56 [.str (dec m),.str (dec n)] (.ret (.str (dec (m*n)))):=by
 refine PCall.walk (rs:=[.tmp 4]) [0,1,4,5] [] mixed (zf zyU zh) (zg) call56 Tryz.func56 rfl Tryz.ntmps56 rfl (by kernel_rfl) (by simp) (by simp [push_cast]) ?_;have:=zH hm hn;simp (disch:=first|assumption|(push_cast<;>omega)|omega) only [go_sem]
noncomputable def zyF:List V→Option PR:=zB (fun p:Nat×Nat=>[.str (dec p.1),.str (dec p.2)]) (fun p=>(dec p.1).length≤400∧(dec p.2).length≤400) (fun p=>.ret (.str (dec (p.1*p.2))))
theorem zfQ:∀ args r,zyF args=some r→PCall Tryz.prog 56 args r:=zn fun p h=>zvE p.1 p.2 h.1 h.2
@[go_sem] theorem cRTimes_eq(m n:Nat)(hm:(dec m).length≤400)(hn:(dec n).length≤400):zyF [.str (dec m),.str (dec n)]=some (.ret (.str (dec (m*n)))):=
 zo (pat:=fun p:Nat×Nat=>[V.str (dec p.1),.str (dec p.2)]) (fun x y h=>by simp at h;exact Prod.ext (zS h.1) (zS h.2)) (m,n) ⟨hm,hn⟩
set_option maxHeartbeats 4000000 in
theorem rSum_ok(p:Bool)(m:Nat)(q:Bool)(n:Nat)(hm:(dec m).length≤800)(hn:(dec n).length≤800):PCall Tryz.prog 55 [.bool p,.str (dec m),.bool q,.str (dec n)] (.ret (.tup [.bool (sumS p m q n).1,.str (dec (sumS p m q n).2)])):=by
 have hΓ:=zf zyW (zf zyV (zf zyT zh));refine PCall.walk (rs:=[.tmp 8,.tmp 9]) [0,1,2,3,8,9,10,12,14,18,30] [] mixed (hΓ) (zg) call55 Tryz.func55 rfl Tryz.ntmps55 rfl (by kernel_rfl) (by simp) (by simp [push_cast]) ?_;have ha:=zeE hm hn;by_cases hpq:p=q
 ·subst hpq;simp (disch:=first|assumption|(push_cast<;>omega)|omega) only [go_sem,sumS,decide_true,beq_self_eq_true]
 ·have hpq':(p==q)=false:=by simpa using hpq
  simp (disch:=first|assumption|(push_cast<;>omega)|omega) only [go_sem,hpq'];refine AXc.introP (fun h1=>?_) (fun h1=>?_)
  ·have h2:n≤m:=by
    rw [zbw]at h1
    split at h1
    ·omega
    ·omega
   simp (disch:=first|assumption|(push_cast<;>omega)|omega) only [go_sem,sumS,hpq,h2]
  ·have h2:¬n≤m:=by
    rw [zbw]at h1
    split at h1
    ·omega
    ·split at h1<;>omega
   simp (disch:=first|assumption|(push_cast<;>omega)|omega) only [go_sem,sumS,hpq,h2]
noncomputable def cRSum:List V→Option PR:=zB (fun p:Bool×Nat×Bool×Nat=>[.bool p.1,.str (dec p.2.1),.bool p.2.2.1,.str (dec p.2.2.2)]) (fun p=>(dec p.2.1).length≤800∧(dec p.2.2.2).length≤800) (fun p=>.ret (.tup [.bool (sumS p.1 p.2.1 p.2.2.1 p.2.2.2).1,.str (dec (sumS p.1 p.2.1 p.2.2.1 p.2.2.2).2)]))
theorem zkS:∀ args r,cRSum args=some r→PCall Tryz.prog 55 args r:=zn fun p h=>rSum_ok p.1 p.2.1 p.2.2.1 p.2.2.2 h.1 h.2
@[go_sem] theorem cRSum_eq(p:Bool)(m:Nat)(q:Bool)(n:Nat)(hm:(dec m).length≤800)(hn:(dec n).length≤800):cRSum [.bool p,.str (dec m),.bool q,.str (dec n)]=some (.ret (.tup [.bool (sumS p m q n).1,.str (dec (sumS p m q n).2)])):=
 zo (pat:=fun p:Bool×Nat×Bool×Nat=>[V.bool p.1,.str (dec p.2.1),.bool p.2.2.1,.str (dec p.2.2.2)]) (fun x y h=>by obtain⟨x1,x2,x3,x4⟩:=x;obtain⟨y1,y2,y3,y4⟩:=y;simp at h;obtain⟨h1,h2,h3,h4⟩:=h;rw [h1,zS h2,h3,zS h4]) (p,m,q,n) ⟨hm,hn⟩
end Go.Proofs

namespace Go.Proofs
open Go.Ab Go.Pl
theorem zbu {a:List UInt8}{s:Bool}{n d:Nat}(h:ratP a=some (s,n,d)):(dec n).length≤400∧(dec d).length≤400∧0<d:=by obtain⟨h0,_,h1,h2⟩:=zaK h;exact⟨h1,h2,h0⟩
set_option maxHeartbeats 4000000 in
set_option maxRecDepth 100000 in
theorem r3Cmp_ok(a b:List UInt8)(la:a.length≤1000000000)(lb:b.length≤1000000000):PCall Tryz.prog 30 [.str a,.str b] (.ret (.int .i64 (zbq a b))):=by
 have hΓ:=zf zej (zf zfQ (zf zkS zh));refine PCall.walk (rs:=[.tmp 4]) [0,1,4,5,6,7,8,9,10,11,12,13,14,34,48,51] [] mixed (hΓ) (zg) call30 Tryz.func30 rfl Tryz.ntmps30 rfl (by kernel_rfl) (by simp) (by simp [push_cast]) ?_;cases ha:ratP a with
 |none=>
  rw [zlL b ha];cases hb:ratP b with
  |none=>simp (disch:=first|assumption|(push_cast<;>omega)|omega) only [go_sem,ha,hb]
  |some y=>
   obtain⟨q,n,f⟩:=y;simp (disch:=first|assumption|(push_cast<;>omega)|omega) only [go_sem,ha,hb]
 |some x=>
  obtain⟨p,m,d⟩:=x;cases hb:ratP b with
  |none=>
   rw [zlK a hb];simp (disch:=first|assumption|(push_cast<;>omega)|omega) only [go_sem,ha,hb]
  |some y=>
   obtain⟨q,n,f⟩:=y;rw [zee ha hb];obtain⟨lm,ld,_⟩:=zbu ha;obtain⟨ln,lf,_⟩:=zbu hb;have l1:=zH lm lf;have l2:=zH ln ld;simp (disch:=first|assumption|(push_cast<;>omega)|omega) only [go_sem,ha,hb];have hz:decide (dec (sumS p (m*f) (!q) (n*d)).2=[48])=decide ((sumS p (m*f) (!q) (n*d)).2=0):=by simp only [dec_is_zero]
   rw [hz];refine AXc.introP (fun h1=>?_) (fun h1=>?_)
   ·simp (disch:=first|assumption|(push_cast<;>omega)|omega) only [go_sem,h1]
   ·cases h2:(sumS p (m*f) (!q) (n*d)).1
    ·simp (disch:=first|assumption|(push_cast<;>omega)|omega) only [go_sem,h1,h2,Bool.false_eq_true]
    ·simp (disch:=first|assumption|(push_cast<;>omega)|omega) only [go_sem,h1,h2]
theorem zjY(neg:Bool)(n d:Nat):ratT neg n d=(if neg=true∧n≠0 then [45]else [])++dec n++(if d=1 then []else 47::dec d):=rfl
theorem ze9 {n:Nat}:zdn n=true↔400<(dec n).length:=by simp [zdn]
set_option maxHeartbeats 4000000 in
theorem rMake_ok(neg:Bool)(n d:Nat)(ln:(dec n).length≤1000)(ld:(dec d).length≤1000)(hd:0<d):PCall Tryz.prog 82 [.bool neg,.str (dec n),.str (dec d)] (.ret (mkV neg n d)):=by
 have hΓ:=zf zaM (zf zqK (zf zqM zh));refine PCall.walk (rs:=[.tmp 6,.tmp 7]) [0,1,2,6,7,8,10,13,27,55,60,64] [] mixed (hΓ) (zg) call82 Tryz.func82 rfl Tryz.ntmps82 rfl (by kernel_rfl) (by simp) (by simp [push_cast]) ?_;have v1:=zX ln;have v2:=zX ld;have hz:decide (dec d=[48])=false:=by rw [decide_eq_false_iff_not,dec_is_zero];omega
 have lg:=zxk (m:=n) hd ld;have hg:0<Nat.gcd n d:=Nat.gcd_pos_of_pos_right n hd;have le1:=zoS (n:=Nat.gcd n d) ln;have le2:=zoS (n:=Nat.gcd n d) ld;simp (disch:=first|assumption|(push_cast<;>omega)|omega) only [go_sem,v1,v2,hz];generalize hN:n / Nat.gcd n d=N at*;generalize hD:d / Nat.gcd n d=D at*;have hb:(decide (400<((dec N).length:Int))||decide (400<((dec D).length:Int)))=decide (zdn N=true∨zdn D=true):=by
  have e1:400<((dec N).length:Int)↔zdn N=true:=by rw [ze9];omega
  have e2:400<((dec D).length:Int)↔zdn D=true:=by rw [ze9];omega
  simp only [e1,e2,Bool.decide_or]
 rw [hb];have hzN:decide (dec N=[48])=decide (N=0):=by simp only [dec_is_zero]
 unfold mkV;rw [hN,hD];refine AXc.introP (fun h1=>?_) (fun h1=>?_)
 ·rw [if_pos h1];simp only [go_sem,errV]
 ·rw [if_neg h1];simp (disch:=first|assumption|(push_cast<;>omega)|omega) only [go_sem,hzN];have hbn:(neg&& !decide (N=0))=decide (neg=true∧N≠0):=by rw [Bool.eq_iff_iff];simp
  rw [hbn];refine AXc.introP (fun h2=>?_) (fun h2=>?_)
  ·simp (disch:=first|assumption|(push_cast<;>omega)|omega) only [go_sem,zaJ]
   (repeat refine sdC ?_);refine AXc.introP (fun h3=>?_) (fun h3=>?_)
   ·simp (disch:=first|assumption|(push_cast<;>omega)|omega) only [go_sem];rw [zjY,if_pos h2,if_pos h3,List.append_nil];all_goals simp
   ·simp (disch:=first|assumption|(push_cast<;>omega)|omega) only [go_sem];rw [zjY,if_pos h2,if_neg h3];simp;omega
  ·simp (disch:=first|assumption|(push_cast<;>omega)|omega) only [go_sem,zaJ];refine AXc.introP (fun h3=>?_) (fun h3=>?_)
   ·simp (disch:=first|assumption|(push_cast<;>omega)|omega) only [go_sem];rw [zjY,if_neg h2,if_pos h3,List.append_nil];simp
   ·simp (disch:=first|assumption|(push_cast<;>omega)|omega) only [go_sem];rw [zjY,if_neg h2,if_neg h3];simp;omega
end Go.Proofs

namespace Go.Proofs
open Go.Ab Go.Pl
theorem parseV_s {a:List UInt8}{s:Bool}{n d:Nat}(hr:ratP a=some (s,n,d)):zdR a=.tup [.agg [.bool s,.str (dec n),.str (dec d)],.bool true]:=by unfold zdR;generalize ratP a=q at hr;subst hr;rfl
theorem parseV_n {a:List UInt8}(hr:ratP a=none):zdR a=.tup [.agg [.bool false,.str [],.str []],.bool false]:=by unfold zdR;generalize ratP a=q at hr;subst hr;rfl
noncomputable def zqO:List V→Option PR:=zB (fun a:List UInt8=>[.str a]) (fun a=>a.length≤1000000000) fun a=>.ret (zdR a)
theorem zmZ(a:List UInt8)(h:a.length≤1000000000):zqO [.str a]=some (.ret (zdR a)):=zo (pat:=fun a:List UInt8=>[V.str a]) (fun x y h=>by simpa using h) a h
theorem zfl:∀ args r,zqO args=some r→PCall Tryz.prog 116 args r:=zn fun a h=>parse_ok a h
@[go_sem] theorem cParse_s {a:List UInt8}{s:Bool}{n d:Nat}(hr:ratP a=some (s,n,d))(h:a.length≤1000000000):zqO [.str a]=some (.ret (.tup [.agg [.bool s,.str (dec n),.str (dec d)],.bool true])):=
 (zmZ a h).trans (congrArg (fun v=>some (PR.ret v)) (parseV_s hr))
@[go_sem] theorem cParse_n {a:List UInt8}(hr:ratP a=none)(h:a.length≤1000000000):zqO [.str a]=some (.ret (.tup [.agg [.bool false,.str [],.str []],.bool false])):=
 (zmZ a h).trans (congrArg (fun v=>some (PR.ret v)) (parseV_n hr))
theorem znZ(a:List UInt8)(h:a.length≤1000000000):PCall Tryz.prog 145 [.str a] (.ret (.bool (ratP a).isSome)):=by
 refine PCall.walk (rs:=[.tmp 2]) [0,2] [] mixed (zf zfl zh) (zg) call145 Tryz.func145 rfl Tryz.ntmps145 rfl (by kernel_rfl) (by simp) (by simp [push_cast]) ?_;cases hr:ratP a with
 |none=>simp (disch:=first|assumption|(push_cast<;>omega)|omega) only [go_sem,hr,Option.isSome_none]
 |some q=>
  obtain⟨s,n,d⟩:=q;simp (disch:=first|assumption|(push_cast<;>omega)|omega) only [go_sem,hr,Option.isSome_some]
noncomputable def zmR:List V→Option PR:=zB (fun a:List UInt8=>[.str a]) (fun a=>a.length≤1000000000) fun a=>.ret (.bool (ratP a).isSome)
@[go_sem] theorem cRatValid_eq(a:List UInt8)(h:a.length≤1000000000):zmR [.str a]=some (.ret (.bool (ratP a).isSome)):=zo (pat:=fun a:List UInt8=>[V.str a]) (fun x y h=>by simpa using h) a h
theorem zmQ:∀ args r,zmR args=some r→PCall Tryz.prog 145 args r:=zn fun a h=>znZ a h
set_option maxHeartbeats 8000000 in
set_option maxRecDepth 100000 in
theorem zvC(a b:List UInt8)(la:a.length≤1000000000)(lb:b.length≤1000000000):PCall Tryz.prog 70 [.str a,.str b] (.ret (.int .i64 (zbq a b))):=by
 have hΓ:=zf zfl (zf zkU (zf zel (zf zhL zh)));refine PCall.walk (rs:=[.tmp 4]) [0,1,4,5,6,7,8,9,10,26,52,55] [] mixed (hΓ) (zg) call70 Tryz.func70 rfl Tryz.ntmps70 rfl (by kernel_rfl) (by simp) (by simp [push_cast]) ?_;cases ha:ratP a with
 |none=>
  rw [zlL b ha];cases hb:ratP b with
  |none=>simp (disch:=first|assumption|(push_cast<;>omega)|omega) only [go_sem,ha,hb]
  |some y=>
   obtain⟨q,n,f⟩:=y;simp (disch:=first|assumption|(push_cast<;>omega)|omega) only [go_sem,ha,hb]
 |some x=>
  obtain⟨p,m,d⟩:=x;cases hb:ratP b with
  |none=>
   rw [zlK a hb];simp (disch:=first|assumption|(push_cast<;>omega)|omega) only [go_sem,ha,hb]
  |some y=>
   obtain⟨q,n,f⟩:=y;rw [zee ha hb];obtain⟨lm,ld,_⟩:=zbu ha;obtain⟨ln,lf,_⟩:=zbu hb;have l1:=zH lm lf;have l2:=zH ln ld;simp (disch:=first|assumption|(push_cast<;>omega)|omega) only [go_sem,ha,hb];refine AXk.intro (by kernel_rfl) ?_;have hz:decide (dec (sumS p (m*f) (!q) (n*d)).2=[48])=decide ((sumS p (m*f) (!q) (n*d)).2=0):=by simp only [dec_is_zero]
   simp (disch:=first|assumption|(push_cast<;>omega)|omega) only [go_sem];rw [hz];refine AXc.introP (fun h1=>?_) (fun h1=>?_)
   ·simp (disch:=first|assumption|(push_cast<;>omega)|omega) only [go_sem,h1]
   ·cases h2:(sumS p (m*f) (!q) (n*d)).1
    ·simp (disch:=first|assumption|(push_cast<;>omega)|omega) only [go_sem,h1,h2,Bool.false_eq_true]
    ·simp (disch:=first|assumption|(push_cast<;>omega)|omega) only [go_sem,h1,h2]
noncomputable def zyB:List V→Option PR:=zB (fun p:List UInt8×List UInt8=>[.str p.1,.str p.2]) (fun p=>p.1.length≤1000000000∧p.2.length≤1000000000) (fun p=>.ret (.int .i64 (zbq p.1 p.2)))
theorem ztH:∀ args r,zyB args=some r→PCall Tryz.prog 70 args r:=zn fun p h=>zvC p.1 p.2 h.1 h.2
@[go_sem] theorem cRatCmp_eq(a b:List UInt8)(la:a.length≤1000000000)(lb:b.length≤1000000000):zyB [.str a,.str b]=some (.ret (.int .i64 (zbq a b))):=zo (fun p q h=>by simp at h;exact Prod.ext h.1 h.2) (a,b) ⟨la,lb⟩
end Go.Proofs

namespace Go.Proofs
open Go.Ab Go.Pl
theorem zz0(w:World):(Instr.typeAssert (.iface 182 (.agg #[])) 20 182 true).run Tryz.prog w=.ok (.tuple #[.agg #[],.bool true]) w:=by
 have h1:Tryz.prog.underlying 182=some (.struct #[]):=by kernel_rfl
 simp [Instr.typeAssert,run_underlying h1]
abbrev longV:V:=.ifc 182 (.agg [])
abbrev longW:Value:=.iface 182 (.agg #[])
set_option maxRecDepth 100000 in
theorem ztv(n:Nat)(w:World)(h1:w.heap[n]? =some (.cells #[.string .empty] 9 (0,0)))(h2:w.heap[n+1]? =some (.cells #[.int .i64 0] 27 (0,0))):
 CallsD Tryz.prog 177 #[.pointer (some ⟨n,0,none⟩),.pointer (some ⟨n+1,0,none⟩)] (.panicking [{ v:=longW,recovered:=false }]) w
  fun e u' w'=>e=.returned (.tuple #[])∧u'=.panicking [{ v:=longW,recovered:=true }]∧w'=(((w.alloc (.cells #[] 182)).setCell ⟨n,0,none⟩ (.string .empty)).setCell ⟨n+1,0,none⟩ (.int .i64 2)):=by
 refine callsD_of_wpS Tryz.func177 rfl fun c₀ cs hu=>?_
 apply wpS_seq
 apply wpS_region
 simp [wpOpsS,go_sem,recoverD,hu,Tryz.ntmps177,Exit.thenS,zz0]
 have hlt:n+1<w.heap.size:=(Array.getElem?_eq_some_iff.1 h2).1
 have a1:(w.alloc (.cells #[] 182)).heap[n]? =some (.cells #[.string .empty] 9 (0,0)):=by show (w.heap.push _)[n]? =_;rw [Array.getElem?_push_lt (by omega), ←h1,Array.getElem?_eq_getElem]
 have a2:(w.alloc (.cells #[] 182)).heap[n+1]? =some (.cells #[.int .i64 0] 27 (0,0)):=by show (w.heap.push _)[n+1]? =_;rw [Array.getElem?_push_lt hlt, ←h2,Array.getElem?_eq_getElem]
 generalize w.alloc (.cells #[] 182)=W at a1 a2 ⊢
 have c1:W.cell? ⟨n,0,none⟩=some (.string .empty):=by simp [World.cell?,a1]
 have f1:W.frozen? ⟨n,0,none⟩=false:=by simp [World.frozen?,a1]
 have c2:W.cell? ⟨n+1,0,none⟩=some (.int .i64 0):=by simp [World.cell?,a2]
 have f2:W.frozen? ⟨n+1,0,none⟩=false:=by simp [World.frozen?,a2]
 apply wpS_seq
 apply wpS_region
 simp [wpOpsS,go_sem,Exit.thenS]
 refine wpS_cond (t:=true) (by simp [Act.eval,Array.replicate]) ?_
 simp only [if_true]
 apply wpS_region
 simp [wpOpsS,go_sem,Exit.thenS,Act.eval,c1,f1,c2,f2]
 refine⟨rfl,.panicking [{ v:=longW,recovered:=true }],rfl,.tuple #[],by simp [results,Tryz.results177],rfl,rfl,rfl⟩
set_option maxRecDepth 100000 in
theorem zh0(w:World)(fid:FuncId)(caps:Array Value){R1:World→Prop}{R:Ending→World→Prop}
 (h1:GoCall Tryz.prog fid caps ((w.alloc (.cells #[.string .empty] 9)).alloc (.cells #[.int .i64 0] 27)) fun e w'=>e=.panicked [{ v:=longW,recovered:=false }]∧R1 w')
 (h3:∀ w',R1 w'→w'.heap[w.heap.size]? =some (.cells #[.string .empty] 9 (0,0))∧w'.heap[w.heap.size+1]? =some (.cells #[.int .i64 0] 27 (0,0))∧
  R (.returned (.tuple #[.string .empty,.int .i64 2])) (((w'.alloc (.cells #[] 182)).setCell ⟨w.heap.size,0,none⟩ (.string .empty)).setCell ⟨w.heap.size+1,0,none⟩ (.int .i64 2))):
 Calls Tryz.prog 146 #[.func (.func fid) #[] caps] w R:=by
 have hmf:∀(fn:Fn) (first cap:Array Value) (w:World),(Instr.makeFunc fn first cap).run Tryz.prog w=.ok (.func fn first cap) w:=fun _ _ _ _=>rfl
 go_enter_defers Tryz.func146,Tryz.ntmps146
 go_wp2
 refine zhX h1 ?_
 rintro e w1 ⟨rfl,hR1⟩
 obtain⟨hb1,hb2,hR⟩:=h3 w1 hR1
 refine leaves_cons (f:=177) (args:=#[.pointer (some ⟨w.heap.size,0,none⟩),.pointer (some ⟨w.heap.size+1,0,none⟩)]) (by simp) (by simp [go_sem]) ?_
 refine(ztv w.heap.size w1 hb1 hb2).mono ?_
 rintro e u' w'' ⟨rfl,rfl,rfl⟩
 have hlt:w.heap.size+1<w1.heap.size:=(Array.getElem?_eq_some_iff.1 hb2).1
 have a1:(w1.alloc (.cells #[] 182)).heap[w.heap.size]? =some (.cells #[.string .empty] 9 (0,0)):=by show (w1.heap.push _)[w.heap.size]? =_;rw [Array.getElem?_push_lt (by omega), ←hb1,Array.getElem?_eq_getElem]
 have a2:(w1.alloc (.cells #[] 182)).heap[w.heap.size+1]? =some (.cells #[.int .i64 0] 27 (0,0)):=by show (w1.heap.push _)[w.heap.size+1]? =_;rw [Array.getElem?_push_lt hlt, ←hb2,Array.getElem?_eq_getElem]
 generalize w1.alloc (.cells #[] 182)=W at a1 a2 hR ⊢
 have e1:((W.setCell ⟨w.heap.size,0,none⟩ (.string .empty)).setCell ⟨w.heap.size+1,0,none⟩ (.int .i64 2)).cell? ⟨w.heap.size,0,none⟩=some (.string .empty):=by simp [World.cell?,World.setCell,Array.getElem?_modify,a1]
 have e2:((W.setCell ⟨w.heap.size,0,none⟩ (.string .empty)).setCell ⟨w.heap.size+1,0,none⟩ (.int .i64 2)).cell? ⟨w.heap.size+1,0,none⟩=some (.int .i64 2):=by simp [World.cell?,World.setCell,Array.getElem?_modify,a2]
 simp [Leaves,settle,results,Tryz.results146,go_sem,e1,e2]
 exact hR
theorem more_phi {g:G}{phi':Nat→Option (Array Value)}{w2 w':World}{B:Nat}(hb:Bel B w2 w')(h0:∀ c arr,g.phi c=some arr→c<B∧∃ t fr,w2.heap[c]? =some (.cells arr t fr))(hp:∀ c a,phi' c=some a→B≤c∧∃ t fr,w'.heap[c]? =some (.cells a t fr)):
 ∀ c arr,(G.more ⟨fun _=>none,g.phi⟩ phi').phi c=some arr→∃ t fr,w'.heap[c]? =some (.cells arr t fr):=by
 intro c arr e
 have e':(g.phi c).or (phi' c)=some arr:=e
 cases h:g.phi c with
 |none=>rw [h]at e';exact(hp c arr e').2
 |some a=>
  rw [h]at e'
  cases e'
  obtain⟨h1,t,fr,h2⟩:=h0 c arr h
  exact⟨t,fr,by rw [hb.block c h1];exact h2⟩
set_option maxRecDepth 100000 in
theorem zuu {fid:FuncId}{caps:List V}{v:V}{s:List UInt8}(h1:PCall Tryz.prog fid caps (.ret v))(h2:PCall Tryz.prog 178 [v] (.ret (.str s))):
 PCall Tryz.prog 146 [.fn fid caps] (.ret (.tup [.str s,.int .i64 0])):=by
 intro g w vs hgl hphi hsz hpw
 obtain⟨vf,hvf,rf⟩:=hpw 0 _ rfl
 obtain⟨arr,rfl,hsz',hcp⟩:=rf.inv_fn
 have hvs':vs=#[.func (.func fid) #[] arr]:=by
  apply Array.ext_getElem?;intro i;match i with
  |0=>exact hvf
  |i+1=>rw [Array.getElem?_eq_none (by simp at hsz;omega),Array.getElem?_eq_none (by simp)]
 subst hvs'
 let w2:=(w.alloc (.cells #[.string .empty] 9)).alloc (.cells #[.int .i64 0] 27)
 have hs2:w2.heap.size=w.heap.size+2:=by show ((w.heap.push _).push _).size=_;simp
 have hb:Bel w.heap.size w w2:=Bel.of (((Go.RowKit.Below.refl _ _).alloc (Nat.le_refl _) _).alloc (by show w.heap.size≤(w.heap.push _).size;simp) _) (Nat.le_refl _)
 have lo:∀ c a,g.phi c=some a→c<w.heap.size:=fun c a e=>let ⟨t,fr,h⟩:=hphi c a e;(Array.getElem?_eq_some_iff.1 h).1
 have ph2:∀ c a,g.phi c=some a→c<w2.heap.size∧∃ t fr,w2.heap[c]? =some (.cells a t fr):=fun c a e=>⟨by have:=lo c a e;omega,let ⟨t,fr,h⟩:=hphi c a e;⟨t,fr,by rw [hb.block c (lo c a e)];exact h⟩⟩
 have k1:=h1 g w2 arr hgl (fun c a e=>(ph2 c a e).2) hsz' hcp
 refine .inl ⟨zx7 _ w,ziz w fid arr (R1:=fun v' w'=>∃ phi',(∀ c a,phi' c=some a→w2.heap.size≤c∧∃ t fr,w'.heap[c]? =some (.cells a t fr))∧Bel w2.heap.size w2 w'∧VRel (G.more ⟨fun _=>none,g.phi⟩ phi') v v') (k1.mono ?_) ?_⟩
 ·rintro e w' ⟨phi',vc,hp,hB,rfl,hv⟩
  exact⟨vc,rfl,phi',hp,hB,hv⟩
 rintro v' w' ⟨phi',hp,hB,hv⟩
 have k2:=h2 (G.more ⟨fun _=>none,g.phi⟩ phi') w' #[v'] (hgl.mono (G.more_le ⟨fun _=>none,g.phi⟩ phi').2) (more_phi hB ph2 hp) rfl (fun i x hx=>by
  match i,hx with
  |0,hx=>cases hx;exact⟨v',rfl,hv⟩)
 refine(zd4 can178 k2).mono ?_
 rintro e w3 ⟨phi2,vc,hp2,hB2,rfl,hv2⟩
 obtain⟨sb,rfl,hsb⟩:=hv2.inv_str
 have sz1:=hB.size
 have sz2:=hB2.size
 have b1:w3.heap[w.heap.size]? =some (.cells #[.string .empty] 9 (0,0)):=by rw [hB2.block _ (by omega),hB.block _ (by omega)];show ((w.heap.push _).push _)[w.heap.size]? =_;rw [Array.getElem?_push_lt (by simp)];simp
 have b2:w3.heap[w.heap.size+1]? =some (.cells #[.int .i64 0] 27 (0,0)):=by rw [hB2.block _ (by omega),hB.block _ (by omega)];show ((w.heap.push _).push _)[w.heap.size+1]? =_;rw [Array.getElem?_push,if_pos (by simp)]
 refine⟨sb,rfl,b1,b2,fun _=>none,_,(fun c a e=>by cases e),⟨hB2.os.trans (hB.os.trans hb.os),⟨(hB2.tape.trans (hB.tape.trans hb.tape)).eq,(hB2.tape.trans (hB.tape.trans hb.tape)).le⟩,hB2.output.trans (hB.output.trans hb.output),?_,fun k hk=>?_⟩,rfl,?_⟩
 ·show _≤(Array.push _ _).size
  simp [World.setCell]
  omega
 ·rw [zmp w3 w.heap.size _ _ _ k (by omega) (by omega) (by omega),hB2.block k (by omega),hB.block k (by omega),hb.block k hk]
 ·refine VRel.mk_tup rfl fun i y hy=>?_
  match i,hy with
  |0,hy=>cases hy;exact⟨_,rfl,.str hsb⟩
  |1,hy=>cases hy;exact⟨_,rfl,.int _ _⟩
set_option maxRecDepth 100000 in
theorem zuv {fid:FuncId}{caps:List V}(h1:PCall Tryz.prog fid caps (.panic longV)):
 PCall Tryz.prog 146 [.fn fid caps] (.ret (.tup [.str [],.int .i64 2])):=by
 intro g w vs hgl hphi hsz hpw
 obtain⟨vf,hvf,rf⟩:=hpw 0 _ rfl
 obtain⟨arr,rfl,hsz',hcp⟩:=rf.inv_fn
 have hvs':vs=#[.func (.func fid) #[] arr]:=by
  apply Array.ext_getElem?;intro i;match i with
  |0=>exact hvf
  |i+1=>rw [Array.getElem?_eq_none (by simp at hsz;omega),Array.getElem?_eq_none (by simp)]
 subst hvs'
 let w2:=(w.alloc (.cells #[.string .empty] 9)).alloc (.cells #[.int .i64 0] 27)
 have hs2:w2.heap.size=w.heap.size+2:=by show ((w.heap.push _).push _).size=_;simp
 have hb:Bel w.heap.size w w2:=Bel.of (((Go.RowKit.Below.refl _ _).alloc (Nat.le_refl _) _).alloc (by show w.heap.size≤(w.heap.push _).size;simp) _) (Nat.le_refl _)
 have lo:∀ c a,g.phi c=some a→c<w.heap.size:=fun c a e=>let ⟨t,fr,h⟩:=hphi c a e;(Array.getElem?_eq_some_iff.1 h).1
 have ph2:∀ c a,g.phi c=some a→∃ t fr,w2.heap[c]? =some (.cells a t fr):=fun c a e=>let ⟨t,fr,h⟩:=hphi c a e;⟨t,fr,by rw [hb.block c (lo c a e)];exact h⟩
 have k1:=h1 g w2 arr hgl ph2 hsz' hcp
 refine .inl ⟨zx7 _ w,zh0 w fid arr (R1:=fun w'=>Bel w2.heap.size w2 w') (k1.mono ?_) ?_⟩
 ·rintro e w' ⟨phi',vc,hp,hB,rfl,hv⟩
  refine⟨?_,hB⟩
  cases hv with
  |ifc hv=>
   cases hv with
   |agg vs hs h1 h2=>
    have:(_:Array Value)=#[]:=Array.eq_empty_of_size_eq_zero hs
    subst this
    rfl
 intro w3 hB
 have sz1:=hB.size
 have b1:w3.heap[w.heap.size]? =some (.cells #[.string .empty] 9 (0,0)):=by rw [hB.block _ (by omega)];show ((w.heap.push _).push _)[w.heap.size]? =_;rw [Array.getElem?_push_lt (by simp)];simp
 have b2:w3.heap[w.heap.size+1]? =some (.cells #[.int .i64 0] 27 (0,0)):=by rw [hB.block _ (by omega)];show ((w.heap.push _).push _)[w.heap.size+1]? =_;rw [Array.getElem?_push,if_pos (by simp)]
 refine⟨b1,b2,fun _=>none,_,(fun c a e=>by cases e),⟨hB.os.trans hb.os,⟨(hB.tape.trans hb.tape).eq,(hB.tape.trans hb.tape).le⟩,hB.output.trans hb.output,?_,fun k hk=>?_⟩,rfl,?_⟩
 ·have:w.heap.size≤(w3.heap.push (.cells #[] 182)).size:=by simp;omega
  have sc:∀(x:World) (p:Addr) (v:Value),(x.setCell p v).heap.size=x.heap.size:=by intro x p v;simp [World.setCell]
  rw [sc,sc]
  exact this
 ·rw [zbI (by omega),zbI (by omega)]
  show (Array.push _ _)[k]? =_
  rw [Array.getElem?_push_lt (by omega), ←Array.getElem?_eq_getElem,hB.block k (by omega),hb.block k hk]
 ·refine VRel.mk_tup rfl fun i y hy=>?_
  match i,hy with
  |0,hy=>cases hy;exact⟨_,rfl,.str rfl⟩
  |1,hy=>cases hy;exact⟨_,rfl,.int _ _⟩
end Go.Proofs

namespace Go.Proofs
open Go.Ab Go.Pl
noncomputable def cRMake:List V→Option PR:=zB (fun p:Bool×Nat×Nat=>[.bool p.1,.str (dec p.2.1),.str (dec p.2.2)]) (fun p=>(dec p.2.1).length≤1000∧(dec p.2.2).length≤1000∧0<p.2.2) (fun p=>.ret (mkV p.1 p.2.1 p.2.2))
theorem zmT:∀ args r,cRMake args=some r→PCall Tryz.prog 82 args r:=zn fun p h=>rMake_ok p.1 p.2.1 p.2.2 h.1 h.2.1 h.2.2
@[go_sem] theorem cRMake_eq(neg:Bool)(n d:Nat)(ln:(dec n).length≤1000)(ld:(dec d).length≤1000)(hd:0<d):cRMake [.bool neg,.str (dec n),.str (dec d)]=some (.ret (mkV neg n d)):=
 zo (pat:=fun p:Bool×Nat×Nat=>[V.bool p.1,.str (dec p.2.1),.str (dec p.2.2)]) (fun x y h=>by obtain⟨x1,x2,x3⟩:=x;obtain⟨y1,y2,y3⟩:=y;simp at h;obtain⟨h1,h2,h3⟩:=h;rw [h1,zS h2,zS h3]) (neg,n,d) ⟨ln,ld,hd⟩
set_option maxHeartbeats 4000000 in
set_option maxRecDepth 100000 in
theorem r3Add_ok(a b:List UInt8)(la:a.length≤1000000000)(lb:b.length≤1000000000):PCall Tryz.prog 53 [.str a,.str b] (.ret (zaH a b)):=by
 have hΓ:=zf zej (zf zfQ (zf zkS (zf zmT zh)));refine PCall.walk (rs:=[.tmp 4,.tmp 5]) [0,1,4,5,6,7,8,9,10,11,12,13,14,15,35] [] mixed (hΓ) (zg) call53 Tryz.func53 rfl Tryz.ntmps53 rfl (by kernel_rfl) (by simp) (by simp [push_cast]) ?_;cases ha:ratP a with
 |none=>
  rw [ziN b ha];cases hb:ratP b with
  |none=>simp (disch:=first|assumption|(push_cast<;>omega)|omega) only [go_sem,ha,hb,errV]
  |some y=>
   obtain⟨q,n,f⟩:=y;simp (disch:=first|assumption|(push_cast<;>omega)|omega) only [go_sem,ha,hb,errV]
 |some x=>
  obtain⟨p,m,d⟩:=x;cases hb:ratP b with
  |none=>
   rw [ziM a hb];simp (disch:=first|assumption|(push_cast<;>omega)|omega) only [go_sem,ha,hb,errV]
  |some y=>
   obtain⟨q,n,f⟩:=y;rw [ze1 ha hb];obtain⟨lm,ld,d0⟩:=zbu ha;obtain⟨ln,lf,f0⟩:=zbu hb;have l1:=zH lm lf;have l2:=zH ln ld;have l3:=zH ld lf;have l4:=zH lm ln;have l5:=zH ld ln;have h0:=Nat.mul_pos d0 f0;have l6:=zgn (p:=p) (q:=q) l1 l2;obtain⟨s,e,hse⟩:=zfK (sumS p (m*f) q (n*d)).1 (sumS p (m*f) q (n*d)).2 (d*f);simp (disch:=first|assumption|(push_cast<;>omega)|omega) only [go_sem,ha,hb,hse]
noncomputable def zyS:List V→Option PR:=zB (fun p:List UInt8×List UInt8=>[.str p.1,.str p.2]) (fun p=>p.1.length≤1000000000∧p.2.length≤1000000000) (fun p=>.ret (zaH p.1 p.2))
theorem zyQ:∀ args r,zyS args=some r→PCall Tryz.prog 53 args r:=zn fun p h=>r3Add_ok p.1 p.2 h.1 h.2
@[go_sem] theorem zyR(a b:List UInt8)(la:a.length≤1000000000)(lb:b.length≤1000000000):zyS [.str a,.str b]=some (.ret (zaH a b)):=zo (fun p q h=>by simp at h;exact Prod.ext h.1 h.2) (a,b) ⟨la,lb⟩
set_option maxHeartbeats 4000000 in
set_option maxRecDepth 100000 in
theorem r3Mul_ok(a b:List UInt8)(la:a.length≤1000000000)(lb:b.length≤1000000000):PCall Tryz.prog 79 [.str a,.str b] (.ret (zaG a b)):=by
 have hΓ:=zf zej (zf zfQ (zf zkS (zf zmT zh)));refine PCall.walk (rs:=[.tmp 4,.tmp 5]) [0,1,4,5,6,7,8,9,10,11,12,13,33] [] mixed (hΓ) (zg) call79 Tryz.func79 rfl Tryz.ntmps79 rfl (by kernel_rfl) (by simp) (by simp [push_cast]) ?_;cases ha:ratP a with
 |none=>
  rw [ziL b ha];cases hb:ratP b with
  |none=>simp (disch:=first|assumption|(push_cast<;>omega)|omega) only [go_sem,ha,hb,errV]
  |some y=>
   obtain⟨q,n,f⟩:=y;simp (disch:=first|assumption|(push_cast<;>omega)|omega) only [go_sem,ha,hb,errV]
 |some x=>
  obtain⟨p,m,d⟩:=x;cases hb:ratP b with
  |none=>
   rw [ziK a hb];simp (disch:=first|assumption|(push_cast<;>omega)|omega) only [go_sem,ha,hb,errV]
  |some y=>
   obtain⟨q,n,f⟩:=y;rw [ze0 ha hb];obtain⟨lm,ld,d0⟩:=zbu ha;obtain⟨ln,lf,f0⟩:=zbu hb;have l1:=zH lm lf;have l2:=zH ln ld;have l3:=zH ld lf;have l4:=zH lm ln;have l5:=zH ld ln;have h0:=Nat.mul_pos d0 f0;have l6:=zgn (p:=p) (q:=q) l1 l2;obtain⟨s,e,hse⟩:=zfK (!(p==q)) (m*n) (d*f);simp (disch:=first|assumption|(push_cast<;>omega)|omega) only [go_sem,ha,hb,hse]
noncomputable def zyO:List V→Option PR:=zB (fun p:List UInt8×List UInt8=>[.str p.1,.str p.2]) (fun p=>p.1.length≤1000000000∧p.2.length≤1000000000) (fun p=>.ret (zaG p.1 p.2))
theorem zyM:∀ args r,zyO args=some r→PCall Tryz.prog 79 args r:=zn fun p h=>r3Mul_ok p.1 p.2 h.1 h.2
@[go_sem] theorem zyN(a b:List UInt8)(la:a.length≤1000000000)(lb:b.length≤1000000000):zyO [.str a,.str b]=some (.ret (zaG a b)):=zo (fun p q h=>by simp at h;exact Prod.ext h.1 h.2) (a,b) ⟨la,lb⟩
noncomputable def cR3Cmp:List V→Option PR:=zB (fun p:List UInt8×List UInt8=>[.str p.1,.str p.2]) (fun p=>p.1.length≤1000000000∧p.2.length≤1000000000) (fun p=>.ret (.int .i64 (zbq p.1 p.2)))
theorem zyP:∀ args r,cR3Cmp args=some r→PCall Tryz.prog 30 args r:=zn fun p h=>r3Cmp_ok p.1 p.2 h.1 h.2
@[go_sem] theorem cR3Cmp_eq(a b:List UInt8)(la:a.length≤1000000000)(lb:b.length≤1000000000):cR3Cmp [.str a,.str b]=some (.ret (.int .i64 (zbq a b))):=zo (fun p q h=>by simp at h;exact Prod.ext h.1 h.2) (a,b) ⟨la,lb⟩
end Go.Proofs
