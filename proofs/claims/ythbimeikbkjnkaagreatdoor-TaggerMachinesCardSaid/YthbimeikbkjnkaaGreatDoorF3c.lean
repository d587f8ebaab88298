/- The reference's rational numbers: products and sums of integers. -/
import Derived.Test.YthbimeikbkjnkaaGreatDoorQFmt
import Derived.Test.YthbimeikbkjnkaaGreatDoorAbEvFn
set_option linter.all false
set_option maxHeartbeats 16000000
set_option maxRecDepth 100000
namespace Go.Proofs
open Tryz Go.Ab Go.Pl
noncomputable def cR2Mul:List V→Option PR:=zu (fun p:Nat×Nat=>[.str (dec p.1),.str (dec p.2)]) (fun p=>(dec p.1).length≤1000∧(dec p.2).length≤1000∧(dec (p.1*p.2)).length≤1000) (fun p=>.ret (.tup [.str (dec (p.1*p.2)),.int .i64 0]))
theorem zAM:∀ args r,cR2Mul args=some r→PCall prog 89 args r:=zn fun p h=>by have:=rMul_ok (dec p.1) (dec p.2);rwa [zrj h.1 h.2.1 h.2.2]at this
@[go_sem] theorem cR2Mul_eq(m n:Nat)(hm:(dec m).length≤1000)(hn:(dec n).length≤1000)(h:(dec (m*n)).length≤1000):cR2Mul [.str (dec m),.str (dec n)]=some (.ret (.tup [.str (dec (m*n)),.int .i64 0])):=
 zo (pat:=fun p:Nat×Nat=>[V.str (dec p.1),.str (dec p.2)]) (fun x y h=>by simp at h;exact YT (zS h.1) (zS h.2)) (m,n) ⟨hm,hn,h⟩
noncomputable def cR2Add:List V→Option PR:=zu (fun p:Nat×Nat=>[.str (dec p.1),.str (dec p.2)]) (fun p=>(dec p.1).length≤1000∧(dec p.2).length≤1000∧(dec (p.1+p.2)).length≤1000) (fun p=>.ret (.tup [.str (dec (p.1+p.2)),.int .i64 0]))
theorem zAO:∀ args r,cR2Add args=some r→PCall prog 86 args r:=zn fun p h=>by have:=rAdd_ok (dec p.1) (dec p.2);rwa [zsq h.1 h.2.1 h.2.2]at this
@[go_sem] theorem cR2Add_eq(m n:Nat)(hm:(dec m).length≤1000)(hn:(dec n).length≤1000)(h:(dec (m+n)).length≤1000):cR2Add [.str (dec m),.str (dec n)]=some (.ret (.tup [.str (dec (m+n)),.int .i64 0])):=
 zo (pat:=fun p:Nat×Nat=>[V.str (dec p.1),.str (dec p.2)]) (fun x y h=>by simp at h;exact YT (zS h.1) (zS h.2)) (m,n) ⟨hm,hn,h⟩
noncomputable def cR2Sub:List V→Option PR:=zu (fun p:Nat×Nat=>[.str (dec p.1),.str (dec p.2)]) (fun p=>(dec p.1).length≤1000∧(dec p.2).length≤1000∧p.2≤p.1) (fun p=>.ret (.tup [.str (dec (p.1 - p.2)),.int .i64 0]))
theorem zAL:∀ args r,cR2Sub args=some r→PCall prog 88 args r:=zn fun p h=>by have:=rSub_ok (dec p.1) (dec p.2);rwa [zq3 h.1 h.2.1 h.2.2]at this
@[go_sem] theorem cR2Sub_eq(m n:Nat)(hm:(dec m).length≤1000)(hn:(dec n).length≤1000)(h:n≤m):cR2Sub [.str (dec m),.str (dec n)]=some (.ret (.tup [.str (dec (m - n)),.int .i64 0])):=
 zo (pat:=fun p:Nat×Nat=>[V.str (dec p.1),.str (dec p.2)]) (fun x y h=>by simp at h;exact YT (zS h.1) (zS h.2)) (m,n) ⟨hm,hn,h⟩
noncomputable def cR2Cmp:List V→Option PR:=zu (fun p:Nat×Nat=>[.str (dec p.1),.str (dec p.2)]) (fun p=>(dec p.1).length≤1000∧(dec p.2).length≤1000) (fun p=>.ret (.int .i64 (cmpI p.1 p.2)))
theorem zAN:∀ args r,cR2Cmp args=some r→PCall prog 87 args r:=zn fun p h=>by have:=rCmp_ok (dec p.1) (dec p.2);rwa [zrS h.1 h.2]at this
@[go_sem] theorem cR2Cmp_eq(m n:Nat)(hm:(dec m).length≤1000)(hn:(dec n).length≤1000):cR2Cmp [.str (dec m),.str (dec n)]=some (.ret (.int .i64 (cmpI m n))):=
 zo (pat:=fun p:Nat×Nat=>[V.str (dec p.1),.str (dec p.2)]) (fun x y h=>by simp at h;exact YT (zS h.1) (zS h.2)) (m,n) ⟨hm,hn⟩
theorem zxz(m n:Nat)(hm:(dec m).length≤400)(hn:(dec n).length≤400):PCall prog 56 [.str (dec m),.str (dec n)] (.ret (.str (dec (m*n)))):=by
 refine PCall.wD (rs:=[.tmp 4]) [0,1,4,5] [] mixed (zf zAM zh) (zg) call56 func56 rfl ntmps56 rfl ?_;have:=zN hm hn;simp (disch:=first|exact Zq|fail) only [go_sem]
noncomputable def zAv:List V→Option PR:=zu (fun p:Nat×Nat=>[.str (dec p.1),.str (dec p.2)]) (fun p=>(dec p.1).length≤400∧(dec p.2).length≤400) (fun p=>.ret (.str (dec (p.1*p.2))))
theorem zgl:∀ args r,zAv args=some r→PCall prog 56 args r:=zn fun p h=>zxz p.1 p.2 h.1 h.2
@[go_sem] theorem cRTimes_eq(m n:Nat)(hm:(dec m).length≤400)(hn:(dec n).length≤400):zAv [.str (dec m),.str (dec n)]=some (.ret (.str (dec (m*n)))):=
 zo (pat:=fun p:Nat×Nat=>[V.str (dec p.1),.str (dec p.2)]) (fun x y h=>by simp at h;exact YT (zS h.1) (zS h.2)) (m,n) ⟨hm,hn⟩
theorem rSum_ok(p:Bool)(m:Nat)(q:Bool)(n:Nat)(hm:(dec m).length≤800)(hn:(dec n).length≤800):PCall prog 55 [.bool p,.str (dec m),.bool q,.str (dec n)] (.ret (.tup [.bool (sumS p m q n).1,.str (dec (sumS p m q n).2)])):=by
 have hΓ:=zf zAO (zf zAN (zf zAL zh));refine PCall.wD (rs:=[.tmp 8,.tmp 9]) [0,1,2,3,8,9,10,12,14,18,30] [] mixed (hΓ) (zg) call55 func55 rfl ntmps55 rfl ?_;have ha:=ze6 hm hn;by_cases hpq:p=q
 ·subst hpq;simp (disch:=first|exact Zq|fail) only [go_sem,sumS,Ybx,Yaz]
 ·have hpq':(p==q)=false:=by simpa using hpq
  simp (disch:=first|exact Zq|fail) only [go_sem,hpq'];refine AXc.introP (fun h1=>?_) (fun h1=>?_)
  ·have h2:n≤m:=by
    rw [zbF]at h1
    split at h1
    ·omega
    ·omega
   simp (disch:=first|exact Zq|fail) only [go_sem,sumS,hpq,h2]
  ·have h2:¬n≤m:=by
    rw [zbF]at h1
    split at h1
    ·omega
    ·split at h1<;>omega
   simp (disch:=first|exact Zq|fail) only [go_sem,sumS,hpq,h2]
noncomputable def cRSum:List V→Option PR:=zu (fun p:Bool×Nat×Bool×Nat=>[.bool p.1,.str (dec p.2.1),.bool p.2.2.1,.str (dec p.2.2.2)]) (fun p=>(dec p.2.1).length≤800∧(dec p.2.2.2).length≤800) (fun p=>.ret (.tup [.bool (sumS p.1 p.2.1 p.2.2.1 p.2.2.2).1,.str (dec (sumS p.1 p.2.1 p.2.2.1 p.2.2.2).2)]))
theorem zlF:∀ args r,cRSum args=some r→PCall prog 55 args r:=zn fun p h=>rSum_ok p.1 p.2.1 p.2.2.1 p.2.2.2 h.1 h.2
@[go_sem] theorem cRSum_eq(p:Bool)(m:Nat)(q:Bool)(n:Nat)(hm:(dec m).length≤800)(hn:(dec n).length≤800):cRSum [.bool p,.str (dec m),.bool q,.str (dec n)]=some (.ret (.tup [.bool (sumS p m q n).1,.str (dec (sumS p m q n).2)])):=
 zo (pat:=fun p:Bool×Nat×Bool×Nat=>[V.bool p.1,.str (dec p.2.1),.bool p.2.2.1,.str (dec p.2.2.2)]) (fun x y h=>by obtain⟨x1,x2,x3,x4⟩:=x;obtain⟨y1,y2,y3,y4⟩:=y;simp at h;obtain⟨h1,h2,h3,h4⟩:=h;rw [h1,zS h2,h3,zS h4]) (p,m,q,n) ⟨hm,hn⟩
theorem zcc {a:List UInt8}{s:Bool}{n d:Nat}(h:ratP a=some (s,n,d)):(dec n).length≤400∧(dec d).length≤400∧0<d:=by obtain⟨h0,_,h1,h2⟩:=zbl h;exact⟨h1,h2,h0⟩
theorem r3Cmp_ok(a b:List UInt8)(la:a.length≤1000000000)(lb:b.length≤1000000000):PCall prog 30 [.str a,.str b] (.ret (.int .i64 (zbd a b))):=by
 have hΓ:=zf zeI (zf zgl (zf zlF zh));refine PCall.wD (rs:=[.tmp 4]) [0,1,4,5,6,7,8,9,10,11,12,13,14,34,48,51] [] mixed (hΓ) (zg) call30 func30 rfl ntmps30 rfl ?_;cases ha:ratP a with
 |none=>
  rw [zmD b ha];cases hb:ratP b with
  |none=>simp (disch:=first|exact Zq|fail) only [go_sem,ha,hb]
  |some y=>
   obtain⟨q,n,f⟩:=y;simp (disch:=first|exact Zq|fail) only [go_sem,ha,hb]
 |some x=>
  obtain⟨p,m,d⟩:=x;cases hb:ratP b with
  |none=>
   rw [zmC a hb];simp (disch:=first|exact Zq|fail) only [go_sem,ha,hb]
  |some y=>
   obtain⟨q,n,f⟩:=y;rw [zeE ha hb];obtain⟨lm,ld,_⟩:=zcc ha;obtain⟨ln,lf,_⟩:=zcc hb;have l1:=zN lm lf;have l2:=zN ln ld;simp (disch:=first|exact Zq|fail) only [go_sem,ha,hb];have hz:decide (dec (sumS p (m*f) (!q) (n*d)).2=[48])=decide ((sumS p (m*f) (!q) (n*d)).2=0):=by simp only [dec_is_zero]
   rw [hz];refine AXc.introP (fun h1=>?_) (fun h1=>?_)
   ·simp (disch:=first|exact Zq|fail) only [go_sem,h1]
   ·cases h2:(sumS p (m*f) (!q) (n*d)).1
    ·simp (disch:=first|exact Zq|fail) only [go_sem,h1,h2,YO]
    ·simp (disch:=first|exact Zq|fail) only [go_sem,h1,h2]
theorem zkE(neg:Bool)(n d:Nat):ratT neg n d=(if neg=true∧n≠0 then [45]else [])++dec n++(if d=1 then []else 47::dec d):=rfl
theorem zh0 {n:Nat}:zdD n=true↔400<(dec n).length:=by simp [zdD]
theorem rMake_ok(neg:Bool)(n d:Nat)(ln:(dec n).length≤1000)(ld:(dec d).length≤1000)(hd:0<d):PCall prog 82 [.bool neg,.str (dec n),.str (dec d)] (.ret (mkV neg n d)):=by
 have hΓ:=zf zaR (zf zr3 (zf zr6 zh));refine PCall.wD (rs:=[.tmp 6,.tmp 7]) [0,1,2,6,7,8,10,13,27,55,60,64] [] mixed (hΓ) (zg) call82 func82 rfl ntmps82 rfl ?_;have v1:=zY ln;have v2:=zY ld;have hz:decide (dec d=[48])=false:=by rw [YS,dec_is_zero];omega
 have lg:=zze (m:=n) hd ld;have hg:0<Nat.gcd n d:=YbM n hd;have le1:=zp0 (n:=Nat.gcd n d) ln;have le2:=zp0 (n:=Nat.gcd n d) ld;simp (disch:=first|exact Zq|fail) only [go_sem,v1,v2,hz];generalize hN:n / Nat.gcd n d=N at*;generalize hD:d / Nat.gcd n d=D at*;have hb:(decide (400<((dec N).length:Int))||decide (400<((dec D).length:Int)))=decide (zdD N=true∨zdD D=true):=by
  have e1:400<((dec N).length:Int)↔zdD N=true:=by rw [zh0];omega
  have e2:400<((dec D).length:Int)↔zdD D=true:=by rw [zh0];omega
  simp only [e1,e2,Bool.decide_or]
 rw [hb];have hzN:decide (dec N=[48])=decide (N=0):=by simp only [dec_is_zero]
 unfold mkV;rw [hN,hD];refine AXc.introP (fun h1=>?_) (fun h1=>?_)
 ·rw [Yf h1];simp only [go_sem,errV]
 ·rw [Yd h1];simp (disch:=first|exact Zq|fail) only [go_sem,hzN];have hbn:(neg&& !decide (N=0))=decide (neg=true∧N≠0):=by rw [YaJ];simp
  rw [hbn];refine AXc.introP (fun h2=>?_) (fun h2=>?_)
  ·simp (disch:=first|exact Zq|fail) only [go_sem,zaM]
   (repeat refine sdC ?_);refine AXc.introP (fun h3=>?_) (fun h3=>?_)
   ·simp (disch:=first|exact Zq|fail) only [go_sem];rw [zkE,Yf h2,Yf h3,Ybt];all_goals simp
   ·simp (disch:=first|exact Zq|fail) only [go_sem];rw [zkE,Yf h2,Yd h3];simp;omega
  ·simp (disch:=first|exact Zq|fail) only [go_sem,zaM];refine AXc.introP (fun h3=>?_) (fun h3=>?_)
   ·simp (disch:=first|exact Zq|fail) only [go_sem];rw [zkE,Yd h2,Yf h3,Ybt];simp
   ·simp (disch:=first|exact Zq|fail) only [go_sem];rw [zkE,Yd h2,Yd h3];simp;omega
theorem parseV_s {a:List UInt8}{s:Bool}{n d:Nat}(hr:ratP a=some (s,n,d)):zed a=.tup [.agg [.bool s,.str (dec n),.str (dec d)],.bool true]:=by unfold zed;generalize ratP a=q at hr;subst hr;rfl
theorem parseV_n {a:List UInt8}(hr:ratP a=none):zed a=.tup [.agg [.bool false,.str [],.str []],.bool false]:=by unfold zed;generalize ratP a=q at hr;subst hr;rfl
noncomputable def zsd:List V→Option PR:=zu (fun a:List UInt8=>[.str a]) (fun a=>a.length≤1000000000) fun a=>.ret (zed a)
theorem znY(a:List UInt8)(h:a.length≤1000000000):zsd [.str a]=some (.ret (zed a)):=zo (pat:=fun a:List UInt8=>[V.str a]) (fun x y h=>by simpa using h) a h
theorem zit:∀ args r,zsd args=some r→PCall prog 116 args r:=zn fun a h=>parse_ok a h
@[go_sem] theorem cParse_s {a:List UInt8}{s:Bool}{n d:Nat}(hr:ratP a=some (s,n,d))(h:a.length≤1000000000):zsd [.str a]=some (.ret (.tup [.agg [.bool s,.str (dec n),.str (dec d)],.bool true])):=
 (znY a h).trans (Ya6 (fun v=>some (PR.ret v)) (parseV_s hr))
@[go_sem] theorem cParse_n {a:List UInt8}(hr:ratP a=none)(h:a.length≤1000000000):zsd [.str a]=some (.ret (.tup [.agg [.bool false,.str [],.str []],.bool false])):=
 (znY a h).trans (Ya6 (fun v=>some (PR.ret v)) (parseV_n hr))
theorem zo4(a:List UInt8)(h:a.length≤1000000000):PCall prog 145 [.str a] (.ret (.bool (ratP a).isSome)):=by
 refine PCall.wD (rs:=[.tmp 2]) [0,2] [] mixed (zf zit zh) (zg) call145 func145 rfl ntmps145 rfl ?_;cases hr:ratP a with
 |none=>simp (disch:=first|exact Zq|fail) only [go_sem,hr,YcL]
 |some q=>
  obtain⟨s,n,d⟩:=q;simp (disch:=first|exact Zq|fail) only [go_sem,hr,Option.isSome_some]
noncomputable def znL:List V→Option PR:=zu (fun a:List UInt8=>[.str a]) (fun a=>a.length≤1000000000) fun a=>.ret (.bool (ratP a).isSome)
@[go_sem] theorem cRatValid_eq(a:List UInt8)(h:a.length≤1000000000):znL [.str a]=some (.ret (.bool (ratP a).isSome)):=zo (pat:=fun a:List UInt8=>[V.str a]) (fun x y h=>by simpa using h) a h
theorem znK:∀ args r,znL args=some r→PCall prog 145 args r:=zn fun a h=>zo4 a h
theorem zxy(a b:List UInt8)(la:a.length≤1000000000)(lb:b.length≤1000000000):PCall prog 70 [.str a,.str b] (.ret (.int .i64 (zbd a b))):=by
 have hΓ:=zf zit (zf zse (zf zfO (zf znZ zh)));refine PCall.wD (rs:=[.tmp 4]) [0,1,4,5,6,7,8,9,10,26,52,55] [] mixed (hΓ) (zg) call70 func70 rfl ntmps70 rfl ?_;cases ha:ratP a with
 |none=>
  rw [zmD b ha];cases hb:ratP b with
  |none=>simp (disch:=first|exact Zq|fail) only [go_sem,ha,hb]
  |some y=>
   obtain⟨q,n,f⟩:=y;simp (disch:=first|exact Zq|fail) only [go_sem,ha,hb]
 |some x=>
  obtain⟨p,m,d⟩:=x;cases hb:ratP b with
  |none=>
   rw [zmC a hb];simp (disch:=first|exact Zq|fail) only [go_sem,ha,hb]
  |some y=>
   obtain⟨q,n,f⟩:=y;rw [zeE ha hb];obtain⟨lm,ld,_⟩:=zcc ha;obtain⟨ln,lf,_⟩:=zcc hb;have l1:=zN lm lf;have l2:=zN ln ld;simp (disch:=first|exact Zq|fail) only [go_sem,ha,hb];refine AXk.intro (by kernel_rfl) ?_;have hz:decide (dec (sumS p (m*f) (!q) (n*d)).2=[48])=decide ((sumS p (m*f) (!q) (n*d)).2=0):=by simp only [dec_is_zero]
   simp (disch:=first|exact Zq|fail) only [go_sem];rw [hz];refine AXc.introP (fun h1=>?_) (fun h1=>?_)
   ·simp (disch:=first|exact Zq|fail) only [go_sem,h1]
   ·cases h2:(sumS p (m*f) (!q) (n*d)).1
    ·simp (disch:=first|exact Zq|fail) only [go_sem,h1,h2,YO]
    ·simp (disch:=first|exact Zq|fail) only [go_sem,h1,h2]
noncomputable def zAr:List V→Option PR:=zu (fun p:List UInt8×List UInt8=>[.str p.1,.str p.2]) (fun p=>p.1.length≤1000000000∧p.2.length≤1000000000) (fun p=>.ret (.int .i64 (zbd p.1 p.2)))
theorem zvw:∀ args r,zAr args=some r→PCall prog 70 args r:=zn fun p h=>zxy p.1 p.2 h.1 h.2
@[go_sem] theorem cRatCmp_eq(a b:List UInt8)(la:a.length≤1000000000)(lb:b.length≤1000000000):zAr [.str a,.str b]=some (.ret (.int .i64 (zbd a b))):=zo (fun p q h=>by simp at h;exact YT h.1 h.2) (a,b) ⟨la,lb⟩
theorem zBI(w:World):(Instr.typeAssert (.iface 182 (.agg #[])) 20 182 true).run prog w=.ok (.tuple #[.agg #[],.bool true]) w:=by
 have h1:prog.underlying 182=some (.struct #[]):=by kernel_rfl
 simp [Instr.typeAssert,run_underlying h1]
abbrev longV:V:=.ifc 182 (.agg [])
abbrev longW:Value:=.iface 182 (.agg #[])
theorem zvj(n:Nat)(w:World)(h1:w.heap[n]? =some (.cells #[.string .empty] 9 (0,0)))(h2:w.heap[n+1]? =some (.cells #[.int .i64 0] 27 (0,0))):
 CallsD prog 177 #[.pointer (some ⟨n,0,none⟩),.pointer (some ⟨n+1,0,none⟩)] (.panicking [{ v:=longW,recovered:=false }]) w
  fun e u' w'=>e=.returned (.tuple #[])∧u'=.panicking [{ v:=longW,recovered:=true }]∧w'=(((w.alloc (.cells #[] 182)).setCell ⟨n,0,none⟩ (.string .empty)).setCell ⟨n+1,0,none⟩ (.int .i64 2)):=by
 refine callsD_of_wpS func177 rfl fun c₀ cs hu=>?_
 apply wpS_seq
 apply wpS_region
 simp [wpOpsS,go_sem,recoverD,hu,ntmps177,Exit.thenS,zBI]
 have hlt:n+1<w.heap.size:=(YJ.1 h2).1
 have a1:(w.alloc (.cells #[] 182)).heap[n]? =some (.cells #[.string .empty] 9 (0,0)):=by show (w.heap.push _)[n]? =_;rw [Yax (by omega), ←h1,Yai]
 have a2:(w.alloc (.cells #[] 182)).heap[n+1]? =some (.cells #[.int .i64 0] 27 (0,0)):=by show (w.heap.push _)[n+1]? =_;rw [Yax hlt, ←h2,Yai]
 generalize w.alloc (.cells #[] 182)=W at a1 a2 ⊢
 have c1:W.cell? ⟨n,0,none⟩=some (.string .empty):=by simp [World.cell?,a1]
 have f1:W.frozen? ⟨n,0,none⟩=false:=by simp [World.frozen?,a1]
 have c2:W.cell? ⟨n+1,0,none⟩=some (.int .i64 0):=by simp [World.cell?,a2]
 have f2:W.frozen? ⟨n+1,0,none⟩=false:=by simp [World.frozen?,a2]
 apply wpS_seq
 apply wpS_region
 simp [wpOpsS,go_sem,Exit.thenS]
 refine wpS_cond (t:=true) (by simp [Act.eval,Array.replicate]) ?_
 simp only [if_true]
 apply wpS_region
 simp [wpOpsS,go_sem,Exit.thenS,Act.eval,c1,f1,c2,f2]
 refine⟨rfl,.panicking [{ v:=longW,recovered:=true }],rfl,.tuple #[],by simp [results,Tryz.results177],rfl,rfl,rfl⟩
theorem ziI(w:World)(fid:FuncId)(caps:Array Value){R1:World→Prop}{R:Ending→World→Prop}
 (h1:GoCall prog fid caps ((w.alloc (.cells #[.string .empty] 9)).alloc (.cells #[.int .i64 0] 27)) fun e w'=>e=.panicked [{ v:=longW,recovered:=false }]∧R1 w')
 (h3:∀ w',R1 w'→w'.heap[w.heap.size]? =some (.cells #[.string .empty] 9 (0,0))∧w'.heap[w.heap.size+1]? =some (.cells #[.int .i64 0] 27 (0,0))∧
  R (.returned (.tuple #[.string .empty,.int .i64 2])) (((w'.alloc (.cells #[] 182)).setCell ⟨w.heap.size,0,none⟩ (.string .empty)).setCell ⟨w.heap.size+1,0,none⟩ (.int .i64 2))):
 Calls prog 146 #[.func (.func fid) #[] caps] w R:=by
 have hmf:∀(fn:Fn) (first cap:Array Value) (w:World),(Instr.makeFunc fn first cap).run prog w=.ok (.func fn first cap) w:=fun _ _ _ _=>rfl
 go_enter_defers func146,ntmps146
 go_wp2
 refine ziF h1 ?_
 rintro e w1 ⟨rfl,hR1⟩
 obtain⟨hb1,hb2,hR⟩:=h3 w1 hR1
 refine leaves_cons (f:=177) (args:=#[.pointer (some ⟨w.heap.size,0,none⟩),.pointer (some ⟨w.heap.size+1,0,none⟩)]) (by simp) (by simp [go_sem]) ?_
 refine(zvj w.heap.size w1 hb1 hb2).mono ?_
 rintro e u' w'' ⟨rfl,rfl,rfl⟩
 have hlt:w.heap.size+1<w1.heap.size:=(YJ.1 hb2).1
 have a1:(w1.alloc (.cells #[] 182)).heap[w.heap.size]? =some (.cells #[.string .empty] 9 (0,0)):=by show (w1.heap.push _)[w.heap.size]? =_;rw [Yax (by omega), ←hb1,Yai]
 have a2:(w1.alloc (.cells #[] 182)).heap[w.heap.size+1]? =some (.cells #[.int .i64 0] 27 (0,0)):=by show (w1.heap.push _)[w.heap.size+1]? =_;rw [Yax hlt, ←hb2,Yai]
 generalize w1.alloc (.cells #[] 182)=W at a1 a2 hR ⊢
 have e1:((W.setCell ⟨w.heap.size,0,none⟩ (.string .empty)).setCell ⟨w.heap.size+1,0,none⟩ (.int .i64 2)).cell? ⟨w.heap.size,0,none⟩=some (.string .empty):=by simp [World.cell?,World.setCell,YaA,a1]
 have e2:((W.setCell ⟨w.heap.size,0,none⟩ (.string .empty)).setCell ⟨w.heap.size+1,0,none⟩ (.int .i64 2)).cell? ⟨w.heap.size+1,0,none⟩=some (.int .i64 2):=by simp [World.cell?,World.setCell,YaA,a2]
 simp [Leaves,settle,results,Tryz.results146,go_sem,e1,e2]
 exact hR
theorem more_phi {g:G}{phi':Nat→Option (Array Value)}{w2 w':World}{B:Nat}(hb:Bel B w2 w')(h0:∀ c arr,g.phi c=some arr→c<B∧∃ t fr,w2.heap[c]? =some (.cells arr t fr))(hp:∀ c a,phi' c=some a→B≤c∧∃ t fr,w'.heap[c]? =some (.cells a t fr)):
 ∀ c arr,(G.more ⟨fun _=>none,g.phi⟩ phi').phi c=some arr→∃ t fr,w'.heap[c]? =some (.cells arr t fr):=by
 intro c arr e
 have e':(g.phi c).or (phi' c)=some arr:=e
 cases h:g.phi c with
 |none=>rw [h]at e';exact(hp c arr e').2
 |some a=>
  rw [h]at e'
  cases e'
  obtain⟨h1,t,fr,h2⟩:=h0 c arr h
  exact⟨t,fr,by rw [hb.block c h1];exact h2⟩
theorem zwj {fid:FuncId}{caps:List V}{v:V}{s:List UInt8}(h1:PCall prog fid caps (.ret v))(h2:PCall prog 178 [v] (.ret (.str s))):
 PCall prog 146 [.fn fid caps] (.ret (.tup [.str s,.int .i64 0])):=by
 intro g w vs hgl hphi hsz hpw
 obtain⟨vf,hvf,rf⟩:=hpw 0 _ rfl
 obtain⟨arr,rfl,hsz',hcp⟩:=rf.inv_fn
 have hvs':vs=#[.func (.func fid) #[] arr]:=by
  apply YaE;intro i;match i with
  |0=>exact hvf
  |i+1=>rw [YC (by simp at hsz;omega),YC (by simp)]
 subst hvs'
 let w2:=(w.alloc (.cells #[.string .empty] 9)).alloc (.cells #[.int .i64 0] 27)
 have hs2:w2.heap.size=w.heap.size+2:=by show ((w.heap.push _).push _).size=_;simp
 have hb:Bel w.heap.size w w2:=Bel.of (((Go.RowKit.Below.refl _ _).alloc (Ye _) _).alloc (by show w.heap.size≤(w.heap.push _).size;simp) _) (Ye _)
 have lo:∀ c a,g.phi c=some a→c<w.heap.size:=fun c a e=>let ⟨t,fr,h⟩:=hphi c a e;(YJ.1 h).1
 have ph2:∀ c a,g.phi c=some a→c<w2.heap.size∧∃ t fr,w2.heap[c]? =some (.cells a t fr):=fun c a e=>⟨by have:=lo c a e;omega,let ⟨t,fr,h⟩:=hphi c a e;⟨t,fr,by rw [hb.block c (lo c a e)];exact h⟩⟩
 have k1:=h1 g w2 arr hgl (fun c a e=>(ph2 c a e).2) hsz' hcp
 refine .inl ⟨zz1 _ w,zje w fid arr (R1:=fun v' w'=>∃ phi',(∀ c a,phi' c=some a→w2.heap.size≤c∧∃ t fr,w'.heap[c]? =some (.cells a t fr))∧Bel w2.heap.size w2 w'∧VRel (G.more ⟨fun _=>none,g.phi⟩ phi') v v') (k1.mono ?_) ?_⟩
 ·rintro e w' ⟨phi',vc,hp,hB,rfl,hv⟩
  exact⟨vc,rfl,phi',hp,hB,hv⟩
 rintro v' w' ⟨phi',hp,hB,hv⟩
 have k2:=h2 (G.more ⟨fun _=>none,g.phi⟩ phi') w' #[v'] (hgl.mono (G.more_le ⟨fun _=>none,g.phi⟩ phi').2) (more_phi hB ph2 hp) rfl (fun i x hx=>by
  match i,hx with
  |0,hx=>cases hx;exact⟨v',rfl,hv⟩)
 refine(zeu can178 k2).mono ?_
 rintro e w3 ⟨phi2,vc,hp2,hB2,rfl,hv2⟩
 obtain⟨sb,rfl,hsb⟩:=hv2.inv_str
 have sz1:=hB.size
 have sz2:=hB2.size
 have b1:w3.heap[w.heap.size]? =some (.cells #[.string .empty] 9 (0,0)):=by rw [hB2.block _ (by omega),hB.block _ (by omega)];show ((w.heap.push _).push _)[w.heap.size]? =_;rw [Yax (by simp)];simp
 have b2:w3.heap[w.heap.size+1]? =some (.cells #[.int .i64 0] 27 (0,0)):=by rw [hB2.block _ (by omega),hB.block _ (by omega)];show ((w.heap.push _).push _)[w.heap.size+1]? =_;rw [Ycg,Yf (by simp)]
 refine⟨sb,rfl,b1,b2,fun _=>none,_,(fun c a e=>by cases e),⟨hB2.os.trans (hB.os.trans hb.os),⟨(hB2.tape.trans (hB.tape.trans hb.tape)).eq,(hB2.tape.trans (hB.tape.trans hb.tape)).le⟩,hB2.output.trans (hB.output.trans hb.output),?_,fun k hk=>?_⟩,rfl,?_⟩
 ·show _≤(Array.push _ _).size
  simp [World.setCell]
  omega
 ·rw [zni w3 w.heap.size _ _ _ k (by omega) (by omega) (by omega),hB2.block k (by omega),hB.block k (by omega),hb.block k hk]
 ·refine VRel.mk_tup rfl fun i y hy=>?_
  match i,hy with
  |0,hy=>cases hy;exact⟨_,rfl,.str hsb⟩
  |1,hy=>cases hy;exact⟨_,rfl,.int _ _⟩
theorem zwk {fid:FuncId}{caps:List V}(h1:PCall prog fid caps (.panic longV)):
 PCall prog 146 [.fn fid caps] (.ret (.tup [.str [],.int .i64 2])):=by
 intro g w vs hgl hphi hsz hpw
 obtain⟨vf,hvf,rf⟩:=hpw 0 _ rfl
 obtain⟨arr,rfl,hsz',hcp⟩:=rf.inv_fn
 have hvs':vs=#[.func (.func fid) #[] arr]:=by
  apply YaE;intro i;match i with
  |0=>exact hvf
  |i+1=>rw [YC (by simp at hsz;omega),YC (by simp)]
 subst hvs'
 let w2:=(w.alloc (.cells #[.string .empty] 9)).alloc (.cells #[.int .i64 0] 27)
 have hs2:w2.heap.size=w.heap.size+2:=by show ((w.heap.push _).push _).size=_;simp
 have hb:Bel w.heap.size w w2:=Bel.of (((Go.RowKit.Below.refl _ _).alloc (Ye _) _).alloc (by show w.heap.size≤(w.heap.push _).size;simp) _) (Ye _)
 have lo:∀ c a,g.phi c=some a→c<w.heap.size:=fun c a e=>let ⟨t,fr,h⟩:=hphi c a e;(YJ.1 h).1
 have ph2:∀ c a,g.phi c=some a→∃ t fr,w2.heap[c]? =some (.cells a t fr):=fun c a e=>let ⟨t,fr,h⟩:=hphi c a e;⟨t,fr,by rw [hb.block c (lo c a e)];exact h⟩
 have k1:=h1 g w2 arr hgl ph2 hsz' hcp
 refine .inl ⟨zz1 _ w,ziI w fid arr (R1:=fun w'=>Bel w2.heap.size w2 w') (k1.mono ?_) ?_⟩
 ·rintro e w' ⟨phi',vc,hp,hB,rfl,hv⟩
  refine⟨?_,hB⟩
  cases hv with
  |ifc hv=>
   cases hv with
   |agg vs hs h1 h2=>
    have:(_:Array Value)=#[]:=Ybu hs
    subst this
    rfl
 intro w3 hB
 have sz1:=hB.size
 have b1:w3.heap[w.heap.size]? =some (.cells #[.string .empty] 9 (0,0)):=by rw [hB.block _ (by omega)];show ((w.heap.push _).push _)[w.heap.size]? =_;rw [Yax (by simp)];simp
 have b2:w3.heap[w.heap.size+1]? =some (.cells #[.int .i64 0] 27 (0,0)):=by rw [hB.block _ (by omega)];show ((w.heap.push _).push _)[w.heap.size+1]? =_;rw [Ycg,Yf (by simp)]
 refine⟨b1,b2,fun _=>none,_,(fun c a e=>by cases e),⟨hB.os.trans hb.os,⟨(hB.tape.trans hb.tape).eq,(hB.tape.trans hb.tape).le⟩,hB.output.trans hb.output,?_,fun k hk=>?_⟩,rfl,?_⟩
 ·have:w.heap.size≤(w3.heap.push (.cells #[] 182)).size:=by simp;omega
  have sc:∀(x:World) (p:Addr) (v:Value),(x.setCell p v).heap.size=x.heap.size:=by intro x p v;simp [World.setCell]
  rw [sc,sc]
  exact this
 ·rw [zbT (by omega),zbT (by omega)]
  show (Array.push _ _)[k]? =_
  rw [Yax (by omega), ←Yai,hB.block k (by omega),hb.block k hk]
 ·refine VRel.mk_tup rfl fun i y hy=>?_
  match i,hy with
  |0,hy=>cases hy;exact⟨_,rfl,.str rfl⟩
  |1,hy=>cases hy;exact⟨_,rfl,.int _ _⟩
noncomputable def cRMake:List V→Option PR:=zu (fun p:Bool×Nat×Nat=>[.bool p.1,.str (dec p.2.1),.str (dec p.2.2)]) (fun p=>(dec p.2.1).length≤1000∧(dec p.2.2).length≤1000∧0<p.2.2) (fun p=>.ret (mkV p.1 p.2.1 p.2.2))
theorem znN:∀ args r,cRMake args=some r→PCall prog 82 args r:=zn fun p h=>rMake_ok p.1 p.2.1 p.2.2 h.1 h.2.1 h.2.2
@[go_sem] theorem cRMake_eq(neg:Bool)(n d:Nat)(ln:(dec n).length≤1000)(ld:(dec d).length≤1000)(hd:0<d):cRMake [.bool neg,.str (dec n),.str (dec d)]=some (.ret (mkV neg n d)):=
 zo (pat:=fun p:Bool×Nat×Nat=>[V.bool p.1,.str (dec p.2.1),.str (dec p.2.2)]) (fun x y h=>by obtain⟨x1,x2,x3⟩:=x;obtain⟨y1,y2,y3⟩:=y;simp at h;obtain⟨h1,h2,h3⟩:=h;rw [h1,zS h2,zS h3]) (neg,n,d) ⟨ln,ld,hd⟩
theorem r3Add_ok(a b:List UInt8)(la:a.length≤1000000000)(lb:b.length≤1000000000):PCall prog 53 [.str a,.str b] (.ret (zbv a b)):=by
 have hΓ:=zf zeI (zf zgl (zf zlF (zf znN zh)));refine PCall.wD (rs:=[.tmp 4,.tmp 5]) [0,1,4,5,6,7,8,9,10,11,12,13,14,15,35] [] mixed (hΓ) (zg) call53 func53 rfl ntmps53 rfl ?_;cases ha:ratP a with
 |none=>
  rw [ztF b ha];cases hb:ratP b with
  |none=>simp (disch:=first|exact Zq|fail) only [go_sem,ha,hb,errV]
  |some y=>
   obtain⟨q,n,f⟩:=y;simp (disch:=first|exact Zq|fail) only [go_sem,ha,hb,errV]
 |some x=>
  obtain⟨p,m,d⟩:=x;cases hb:ratP b with
  |none=>
   rw [ztE a hb];simp (disch:=first|exact Zq|fail) only [go_sem,ha,hb,errV]
  |some y=>
   obtain⟨q,n,f⟩:=y;rw [zmE ha hb];obtain⟨lm,ld,d0⟩:=zcc ha;obtain⟨ln,lf,f0⟩:=zcc hb;have l1:=zN lm lf;have l2:=zN ln ld;have l3:=zN ld lf;have l4:=zN lm ln;have l5:=zN ld ln;have h0:=Ya1 d0 f0;have l6:=zkg (p:=p) (q:=q) l1 l2;obtain⟨s,e,hse⟩:=zhX (sumS p (m*f) q (n*d)).1 (sumS p (m*f) q (n*d)).2 (d*f);simp (disch:=first|exact Zq|fail) only [go_sem,ha,hb,hse]
noncomputable def zAK:List V→Option PR:=zu (fun p:List UInt8×List UInt8=>[.str p.1,.str p.2]) (fun p=>p.1.length≤1000000000∧p.2.length≤1000000000) (fun p=>.ret (zbv p.1 p.2))
theorem znX:∀ args r,zAK args=some r→PCall prog 53 args r:=zn fun p h=>r3Add_ok p.1 p.2 h.1 h.2
@[go_sem] theorem zAJ(a b:List UInt8)(la:a.length≤1000000000)(lb:b.length≤1000000000):zAK [.str a,.str b]=some (.ret (zbv a b)):=zo (fun p q h=>by simp at h;exact YT h.1 h.2) (a,b) ⟨la,lb⟩
theorem r3Mul_ok(a b:List UInt8)(la:a.length≤1000000000)(lb:b.length≤1000000000):PCall prog 79 [.str a,.str b] (.ret (zaJ a b)):=by
 have hΓ:=zf zeI (zf zgl (zf zlF (zf znN zh)));refine PCall.wD (rs:=[.tmp 4,.tmp 5]) [0,1,4,5,6,7,8,9,10,11,12,13,33] [] mixed (hΓ) (zg) call79 func79 rfl ntmps79 rfl ?_;cases ha:ratP a with
 |none=>
  rw [zjt b ha];cases hb:ratP b with
  |none=>simp (disch:=first|exact Zq|fail) only [go_sem,ha,hb,errV]
  |some y=>
   obtain⟨q,n,f⟩:=y;simp (disch:=first|exact Zq|fail) only [go_sem,ha,hb,errV]
 |some x=>
  obtain⟨p,m,d⟩:=x;cases hb:ratP b with
  |none=>
   rw [zjs a hb];simp (disch:=first|exact Zq|fail) only [go_sem,ha,hb,errV]
  |some y=>
   obtain⟨q,n,f⟩:=y;rw [zfr ha hb];obtain⟨lm,ld,d0⟩:=zcc ha;obtain⟨ln,lf,f0⟩:=zcc hb;have l1:=zN lm lf;have l2:=zN ln ld;have l3:=zN ld lf;have l4:=zN lm ln;have l5:=zN ld ln;have h0:=Ya1 d0 f0;have l6:=zkg (p:=p) (q:=q) l1 l2;obtain⟨s,e,hse⟩:=zhX (!(p==q)) (m*n) (d*f);simp (disch:=first|exact Zq|fail) only [go_sem,ha,hb,hse]
noncomputable def zAI:List V→Option PR:=zu (fun p:List UInt8×List UInt8=>[.str p.1,.str p.2]) (fun p=>p.1.length≤1000000000∧p.2.length≤1000000000) (fun p=>.ret (zaJ p.1 p.2))
theorem znW:∀ args r,zAI args=some r→PCall prog 79 args r:=zn fun p h=>r3Mul_ok p.1 p.2 h.1 h.2
@[go_sem] theorem zAH(a b:List UInt8)(la:a.length≤1000000000)(lb:b.length≤1000000000):zAI [.str a,.str b]=some (.ret (zaJ a b)):=zo (fun p q h=>by simp at h;exact YT h.1 h.2) (a,b) ⟨la,lb⟩
noncomputable def cR3Cmp:List V→Option PR:=zu (fun p:List UInt8×List UInt8=>[.str p.1,.str p.2]) (fun p=>p.1.length≤1000000000∧p.2.length≤1000000000) (fun p=>.ret (.int .i64 (zbd p.1 p.2)))
theorem zis:∀ args r,cR3Cmp args=some r→PCall prog 30 args r:=zn fun p h=>r3Cmp_ok p.1 p.2 h.1 h.2
@[go_sem] theorem cR3Cmp_eq(a b:List UInt8)(la:a.length≤1000000000)(lb:b.length≤1000000000):cR3Cmp [.str a,.str b]=some (.ret (.int .i64 (zbd a b))):=zo (fun p q h=>by simp at h;exact YT h.1 h.2) (a,b) ⟨la,lb⟩
def numT(s:Bool)(n d:Nat):List UInt8:=(if s=true then [45]else [])++dec n++(if d=1 then []else 47::dec d)
theorem ztL(s:Bool)(n d:Nat)(hn:(dec n).length≤400)(hd:(dec d).length≤400):PCall prog 178 [.agg [.bool s,.str (dec n),.str (dec d)]] (.ret (.str (numT s n d))):=by
 refine PCall.wD (rs:=[.tmp 2]) [0,1,2,3,7,12] [] mixed (zh) (zg) call178 func178 rfl ntmps178 rfl ?_;have hz:decide (dec d=[49])=decide (d=1):=by have:dec d=[49]↔d=1:=⟨fun h=>zS (h.trans (by rfl:([49]:List UInt8)=dec 1)),fun h=>by subst h;rfl⟩;simp only [this]
 cases s with
 |true=>
  simp (disch:=first|exact Zq|fail) only [go_sem];refine⟨by omega,?_⟩;rw [hz];refine AXc.introN (fun h1=>?_) (fun h1=>?_)
  ·simp (disch:=first|exact Zq|fail) only [go_sem,numT,h1];omega
  ·simp (disch:=first|exact Zq|fail) only [go_sem,numT,h1]
 |false=>
  simp (disch:=first|exact Zq|fail) only [go_sem];rw [hz];refine AXc.introN (fun h1=>?_) (fun h1=>?_)
  ·simp (disch:=first|exact Zq|fail) only [go_sem,numT,h1];omega
  ·simp (disch:=first|exact Zq|fail) only [go_sem,numT,h1]
def redR(neg:Bool)(n d:Nat):PR:=if zdD (n / Nat.gcd n d)=true∨zdD (d / Nat.gcd n d)=true then .panic longV else .ret (.agg [.bool (neg&&decide (n≠0)),.str (dec (n / Nat.gcd n d)),.str (dec (d / Nat.gcd n d))])
theorem zxv(neg:Bool)(n d:Nat)(hn:(dec n).length≤1000)(hd:(dec d).length≤1000)(h0:0<d):PCall prog 113 [.bool neg,.str (dec n),.str (dec d)] (redR neg n d):=by
 have hΓ:=zf zsf (zf zfO (zf cQuot_ok zh));have hg:=zze (m:=n) h0 hd;have hg0:0<Nat.gcd n d:=YbM _ h0;have hz:decide (dec n=[48])=decide (n=0):=by simp only [dec_is_zero]
 unfold redR;by_cases hl:zdD (n / Nat.gcd n d)=true∨zdD (d / Nat.gcd n d)=true
 ·rw [Yf hl];have hl':400<(dec (n / Nat.gcd n d)).length∨400<(dec (d / Nat.gcd n d)).length:=by simpa [zdD] using hl
  refine PCall.wD (rs:=[.cell 6 150]) [0,1,2,6,7,8,36] [] mixed (hΓ) (zg) zAb func113 rfl ntmps113 rfl ?_;simp (disch:=first|exact Zq|fail) only [go_sem];rw [show (decide (400<((dec (n / Nat.gcd n d)).length:Int))||decide (400<((dec (d / Nat.gcd n d)).length:Int)))=true by simp;omega];simp (disch:=first|exact Zq|fail) only [go_sem];simp only [za1];simp (disch:=first|exact Zq|fail) only [go_sem];exact .pure (.ifc (.agg (by simp)))
 ·rw [Yd hl];have hl':¬(400<(dec (n / Nat.gcd n d)).length∨400<(dec (d / Nat.gcd n d)).length):=by simpa [zdD] using hl
  refine PCall.wD (rs:=[.cell 6 150]) [0,1,2,6,7,8,36] [] mixed (hΓ) (zg) zAb func113 rfl ntmps113 rfl ?_;simp (disch:=first|exact Zq|fail) only [go_sem];rw [show (decide (400<((dec (n / Nat.gcd n d)).length:Int))||decide (400<((dec (d / Nat.gcd n d)).length:Int)))=false by simp;omega];simp (disch:=first|exact Zq|fail) only [go_sem,hz,Ycw];exact .pure (by simp [zX,zQ,zT])
noncomputable def zAp:List V→Option PR:=zu (fun p:Bool×Nat×Nat=>[.bool p.1,.str (dec p.2.1),.str (dec p.2.2)]) (fun p=>(dec p.2.1).length≤1000∧(dec p.2.2).length≤1000∧0<p.2.2) (fun p=>redR p.1 p.2.1 p.2.2)
theorem zvt:∀ args r,zAp args=some r→PCall prog 113 args r:=zn fun p h=>zxv p.1 p.2.1 p.2.2 h.1 h.2.1 h.2.2
@[go_sem] theorem cReduce_eq(neg:Bool)(n d:Nat)(ln:(dec n).length≤1000)(ld:(dec d).length≤1000)(hd:0<d):zAp [.bool neg,.str (dec n),.str (dec d)]=some (redR neg n d):=
 zo (pat:=fun p:Bool×Nat×Nat=>[V.bool p.1,.str (dec p.2.1),.str (dec p.2.2)]) (fun x y h=>by obtain⟨x1,x2,x3⟩:=x;obtain⟨y1,y2,y3⟩:=y;simp at h;obtain⟨h1,h2,h3⟩:=h;rw [h1,zS h2,zS h3]) (neg,n,d) ⟨ln,ld,hd⟩
structure Two where
 p:Bool
 m:Nat
 d:Nat
 q:Bool
 n:Nat
 f:Nat
def Two.ok(x:Two):Prop:=(dec x.m).length≤400∧(dec x.d).length≤400∧0<x.d∧(dec x.n).length≤400∧(dec x.f).length≤400∧0<x.f
def Two.a(x:Two):List V:=[.bool x.p,.str (dec x.m),.str (dec x.d)]
def Two.b(x:Two):List V:=[.bool x.q,.str (dec x.n),.str (dec x.f)]
def Two.vs(x:Two):List V:=[.agg x.a,.agg x.b]
theorem Two.ab_inj {x y:Two}(ha:x.a=y.a)(hb:x.b=y.b):x=y:=by obtain⟨p,m,d,q,n,f⟩:=x;obtain⟨p',m',d',q',n',f'⟩:=y;simp only [Two.a,Two.b,Yu,V.bool.injEq,V.str.injEq,Yam]at ha hb;obtain⟨rfl,h1,h2⟩:=ha;obtain⟨rfl,h3,h4⟩:=hb;rw [zS h1,zS h2,zS h3,zS h4]
theorem Two.vs_inj {x y:Two}(h:x.vs=y.vs):x=y:=by simp only [Two.vs,Yu,V.agg.injEq,Yam]at h;exact Two.ab_inj h.1 h.2
def opN(k:Nat)(x:Two):Bool×Nat×Nat:=match k with
 |0=>(!(x.p==x.q),x.m*x.n,x.d*x.f)
 |1=>((sumS x.p (x.m*x.f) x.q (x.n*x.d)).1,(sumS x.p (x.m*x.f) x.q (x.n*x.d)).2,x.d*x.f)
 |_=>(!(x.p==x.q),x.m*x.f,x.d*x.n)
def opR(k:Nat)(x:Two):PR:=redR (opN k x).1 (opN k x).2.1 (opN k x).2.2
theorem zjo(neg:Bool)(n d:Nat):redR neg n d=.panic longV∨∃ s a b,redR neg n d=.ret (.agg [.bool s,.str a,.str b]):=by
 unfold redR;split
 ·exact .inl rfl
 ·exact .inr ⟨_,_,_,rfl⟩
theorem opMul_ok(x:Two)(hx:x.ok)(hz:True):PCall prog 112 x.vs (opR 0 x):=by
 have hΓ:=zf zse (zf zfO (zf znZ (zf zvt zh)));obtain⟨p,m,d,q,n,f⟩:=x;obtain⟨lm,ld,d0,ln,lf,f0⟩:=hx;simp only at lm ld d0 ln lf f0 hz;simp only [Two.vs,Two.a,Two.b,opR,opN];have l1:=zN lm lf;have l2:=zN ln ld;have l3:=zN ld lf;have l4:=zN lm ln;have l5:=zN ld ln;have h0:=Ya1 d0 f0;have l6:=zkg (p:=p) (q:=q) l1 l2;refine PCall.wD (rs:=[.cell 4 150]) [0,1,2,3,4] [] mixed (hΓ) (zg) call112 func112 rfl ntmps112 rfl ?_;rcases zjo (!(p==q)) (m*n) (d*f)with hr|⟨s',a',b',hr⟩
 ·simp (disch:=first|exact Zq|fail) only [go_sem,hr];exact⟨by kernel_rfl,by kernel_rfl,.pure (.ifc (.agg (by simp)))⟩
 ·simp (disch:=first|exact Zq|fail) only [go_sem,hr];refine AXk.intro (by kernel_rfl) ?_;simp (disch:=first|exact Zq|fail) only [go_sem,hr];exact .pure (by simp [zX,zQ,zT])
noncomputable def cOpMul:List V→Option PR:=zu Two.vs (fun x=>x.ok∧True) (opR 0)
theorem zAS:∀ args r,cOpMul args=some r→PCall prog 112 args r:=zn fun x h=>opMul_ok x h.1 h.2
theorem zAT(x:Two)(hx:x.ok)(hz:True):cOpMul [.agg x.a,.agg x.b]=some (opR 0 x):=zo (pat:=Two.vs) (fun _ _ h=>Two.vs_inj h) x ⟨hx,hz⟩
theorem zsV(x:Two)(hx:x.ok)(hz:True):PCall prog 147 [.fp [.fn 112 []],.fp x.a,.fp x.b] (opR 0 x):=by
 have hΓ:=zf zAS zh;have hc:=zAT x hx hz;obtain⟨p,m,d,q,n,f⟩:=x;simp only [Two.a,Two.b]at hc ⊢;refine PCall.wD (rs:=[.cell 3 150]) [0,1,2,3] [] mixed (hΓ) (zg) call147 func147 rfl ntmps147 rfl ?_;rcases zjo (opN 0 ⟨p,m,d,q,n,f⟩).1 (opN 0 ⟨p,m,d,q,n,f⟩).2.1 (opN 0 ⟨p,m,d,q,n,f⟩).2.2 with hr|⟨s',a',b',hr⟩
 ·have hr':opR 0 ⟨p,m,d,q,n,f⟩=_:=hr;rw [hr']at hc ⊢;simp (disch:=first|exact Zq|fail) only [go_sem,hc];exact .pure (.ifc (.agg (by simp)))
 ·have hr':opR 0 ⟨p,m,d,q,n,f⟩=_:=hr;rw [hr']at hc ⊢;simp (disch:=first|exact Zq|fail) only [go_sem,hc];exact .pure (by simp [zX,zQ,zT])
theorem zx1(neg:Bool)(n d:Nat)(hd:0<d):numT (neg&&decide (n≠0)) (n / Nat.gcd n d) (d / Nat.gcd n d)=ratT neg (n / Nat.gcd n d) (d / Nat.gcd n d):=by
 have hg:0<Nat.gcd n d:=YbM _ hd;have h0:n / Nat.gcd n d=0↔n=0:=by
  constructor
  ·intro h;rcases YD n with h1|h1
   ·exact h1
   ·have h2:=YcQ h1 (Nat.gcd_dvd_left n d);have h3:=Nat.div_pos h2 hg;omega
  ·intro h;rw [h];simp
 unfold numT ratT;by_cases h1:n=0
 ·simp [h1]
 ·have h2:¬n / Nat.gcd n d=0:=fun h=>h1 (h0.1 h);cases neg<;>simp [h1,h2]
theorem opN_pos {x:Two}(hx:x.ok):0<(opN 0 x).2.2∧0<(opN 1 x).2.2:=⟨Ya1 hx.2.2.1 hx.2.2.2.2.2,Ya1 hx.2.2.1 hx.2.2.2.2.2⟩
theorem zsI {caps:List V}{neg:Bool}{n d:Nat}(hd:0<d)(h:PCall prog 147 caps (redR neg n d)):PCall prog 146 [.fn 147 caps] (.ret (mkV neg n d)):=by
 unfold redR at h;unfold mkV;by_cases hl:zdD (n / Nat.gcd n d)=true∨zdD (d / Nat.gcd n d)=true
 ·rw [Yf hl]at h ⊢;exact zwk h
 ·rw [Yd hl]at h ⊢;have hl':¬(400<(dec (n / Nat.gcd n d)).length∨400<(dec (d / Nat.gcd n d)).length):=by simpa [zdD] using hl
  rw [←zx1 neg n d hd];exact zwj h (ztL _ _ _ (by omega) (by omega))
noncomputable def cWrMul:List V→Option PR:=zu (fun x:Two=>[.fn 147 [.fp [.fn 112 []],.fp x.a,.fp x.b]]) (fun x=>x.ok∧True) (fun x=>.ret (mkV (opN 0 x).1 (opN 0 x).2.1 (opN 0 x).2.2))
theorem zAd:∀ args r,cWrMul args=some r→PCall prog 146 args r:=zn fun x h=>zsI ((opN_pos h.1).1) (zsV x h.1 h.2)
theorem zAe(x:Two)(hx:x.ok)(hz:True):cWrMul [.fn 147 [.fp [.fn 112 []],.fp x.a,.fp x.b]]=some (.ret (mkV (opN 0 x).1 (opN 0 x).2.1 (opN 0 x).2.2)):=
 zo (pat:=fun x:Two=>[V.fn 147 [.fp [.fn 112 []],.fp x.a,.fp x.b]]) (fun _ _ h=>by simp only [Yu,V.fn.injEq,V.fp.injEq,Yan,Yam]at h;exact Two.ab_inj h.1 h.2) x ⟨hx,hz⟩
theorem zlD(a b:List UInt8)(la:a.length≤1000000000)(lb:b.length≤1000000000)(hz:True):PCall prog 111 [.str a,.str b,.fn 112 []] (.ret (zaJ a b)):=by
 have hΓ:=zf zit (zf zAd zh);refine PCall.wD (rs:=[.tmp 6,.tmp 7]) [0,1,2,5,6,7,8,9,10,11,27] [] mixed (hΓ) (zg) call111 func111 rfl ntmps111 rfl ?_;cases ha:ratP a with
 |none=>
  rw [zjt b ha];cases hb:ratP b with
  |none=>simp (disch:=first|exact Zq|fail) only [go_sem,ha,hb,errV]
  |some y=>
   obtain⟨q,n,f⟩:=y;simp (disch:=first|exact Zq|fail) only [go_sem,ha,hb,errV]
 |some x=>
  obtain⟨p,m,d⟩:=x;cases hb:ratP b with
  |none=>
   rw [zjs a hb];simp (disch:=first|exact Zq|fail) only [go_sem,ha,hb,errV]
  |some y=>
   obtain⟨q,n,f⟩:=y;rw [zfr ha hb];obtain⟨lm,ld,d0⟩:=zcc ha;obtain⟨ln,lf,f0⟩:=zcc hb;have hc:=zAe ⟨p,m,d,q,n,f⟩ ⟨lm,ld,d0,ln,lf,f0⟩ (trivial);simp only [Two.a,Two.b,opN]at hc;obtain⟨s,e,hse⟩:=zhX (!(p==q)) (m*n) (d*f);rw [hse]at hc ⊢;simp (disch:=first|exact Zq|fail) only [go_sem,ha,hb,hc]
end Go.Proofs
