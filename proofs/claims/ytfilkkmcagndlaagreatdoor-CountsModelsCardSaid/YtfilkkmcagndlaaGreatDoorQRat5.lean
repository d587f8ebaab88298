/- rat: text, reduce, Mul, Add, Div. -/
import Derived.Test.YtfilkkmcagndlaaGreatDoorAbEvP
import Derived.Test.YtfilkkmcagndlaaGreatDoorF3b
import Derived.Test.YtfilkkmcagndlaaGreatDoorAbRules
import Derived.Test.YtfilkkmcagndlaaGreatDoorQRat2
set_option linter.all false
namespace Go.Proofs
open Go.Ab Go.Pl
def numT(s:Bool)(n d:Nat):List UInt8:=(if s=true then [45]else [])++dec n++(if d=1 then []else 47::dec d)
set_option maxHeartbeats 4000000 in
set_option maxRecDepth 100000 in
theorem zs3(s:Bool)(n d:Nat)(hn:(dec n).length≤400)(hd:(dec d).length≤400):PCall Tryz.prog 156 [.agg [.bool s,.str (dec n),.str (dec d)]] (.ret (.str (numT s n d))):=by
 refine PCall.walk (rs:=[.tmp 2]) [0,1,2,3,7,12] [] mixed (zh) (zg) call156 Tryz.func156 rfl Tryz.ntmps156 rfl (by kernel_rfl) (by simp) (by simp [push_cast]) ?_;have hz:decide (dec d=[49])=decide (d=1):=by have:dec d=[49]↔d=1:=⟨fun h=>zX (h.trans (by rfl:([49]:List UInt8)=dec 1)),fun h=>by subst h;rfl⟩;simp only [this]
 cases s with
 |true=>
  simp (disch:=first|assumption|(push_cast<;>omega)|omega) only [go_sem];refine⟨by omega,?_⟩;rw [hz];refine AXc.introN (fun h1=>?_) (fun h1=>?_)
  ·simp (disch:=first|assumption|(push_cast<;>omega)|omega) only [go_sem,numT,h1];omega
  ·simp (disch:=first|assumption|(push_cast<;>omega)|omega) only [go_sem,numT,h1]
 |false=>
  simp (disch:=first|assumption|(push_cast<;>omega)|omega) only [go_sem];rw [hz];refine AXc.introN (fun h1=>?_) (fun h1=>?_)
  ·simp (disch:=first|assumption|(push_cast<;>omega)|omega) only [go_sem,numT,h1];omega
  ·simp (disch:=first|assumption|(push_cast<;>omega)|omega) only [go_sem,numT,h1]
def redR(neg:Bool)(n d:Nat):PR:=if zdO (n / Nat.gcd n d)=true∨zdO (d / Nat.gcd n d)=true then .panic longV else .ret (.agg [.bool (neg&&decide (n≠0)),.str (dec (n / Nat.gcd n d)),.str (dec (d / Nat.gcd n d))])
set_option maxHeartbeats 4000000 in
set_option maxRecDepth 100000 in
theorem zwl(neg:Bool)(n d:Nat)(hn:(dec n).length≤1000)(hd:(dec d).length≤1000)(h0:0<d):PCall Tryz.prog 96 [.bool neg,.str (dec n),.str (dec d)] (redR neg n d):=by
 have hΓ:=zf zrJ (zf zd3 (zf cQuot_ok zh));have hg:=zye (m:=n) h0 hd;have hg0:0<Nat.gcd n d:=Nat.gcd_pos_of_pos_right _ h0;have hz:decide (dec n=[48])=decide (n=0):=by simp only [dec_is_zero]
 unfold redR;by_cases hl:zdO (n / Nat.gcd n d)=true∨zdO (d / Nat.gcd n d)=true
 ·rw [if_pos hl];have hl':400<(dec (n / Nat.gcd n d)).length∨400<(dec (d / Nat.gcd n d)).length:=by simpa [zdO] using hl
  refine PCall.walk (rs:=[.cell 6 87]) [0,1,2,6,7,8,36] [] mixed (hΓ) (zg) call96 Tryz.func96 rfl Tryz.ntmps96 rfl (by kernel_rfl) (by simp) (by simp [push_cast]) ?_;simp (disch:=first|assumption|(push_cast<;>omega)|omega) only [go_sem];rw [show (decide (400<((dec (n / Nat.gcd n d)).length:Int))||decide (400<((dec (d / Nat.gcd n d)).length:Int)))=true by simp;omega];simp (disch:=first|assumption|(push_cast<;>omega)|omega) only [go_sem];simp only [za7];simp (disch:=first|assumption|(push_cast<;>omega)|omega) only [go_sem];exact .pure (.ifc (.agg (by simp)))
 ·rw [if_neg hl];have hl':¬(400<(dec (n / Nat.gcd n d)).length∨400<(dec (d / Nat.gcd n d)).length):=by simpa [zdO] using hl
  refine PCall.walk (rs:=[.cell 6 87]) [0,1,2,6,7,8,36] [] mixed (hΓ) (zg) call96 Tryz.func96 rfl Tryz.ntmps96 rfl (by kernel_rfl) (by simp) (by simp [push_cast]) ?_;simp (disch:=first|assumption|(push_cast<;>omega)|omega) only [go_sem];rw [show (decide (400<((dec (n / Nat.gcd n d)).length:Int))||decide (400<((dec (d / Nat.gcd n d)).length:Int)))=false by simp;omega];simp (disch:=first|assumption|(push_cast<;>omega)|omega) only [go_sem,hz,decide_not];exact .pure (by simp [zV,zM,zO])
noncomputable def zzg:List V→Option PR:=zD (fun p:Bool×Nat×Nat=>[.bool p.1,.str (dec p.2.1),.str (dec p.2.2)]) (fun p=>(dec p.2.1).length≤1000∧(dec p.2.2).length≤1000∧0<p.2.2) (fun p=>redR p.1 p.2.1 p.2.2)
theorem zgv:∀ args r,zzg args=some r→PCall Tryz.prog 96 args r:=zo fun p h=>zwl p.1 p.2.1 p.2.2 h.1 h.2.1 h.2.2
@[go_sem] theorem cReduce_eq(neg:Bool)(n d:Nat)(ln:(dec n).length≤1000)(ld:(dec d).length≤1000)(hd:0<d):zzg [.bool neg,.str (dec n),.str (dec d)]=some (redR neg n d):=
 zn (pat:=fun p:Bool×Nat×Nat=>[V.bool p.1,.str (dec p.2.1),.str (dec p.2.2)]) (fun x y h=>by obtain⟨x1,x2,x3⟩:=x;obtain⟨y1,y2,y3⟩:=y;simp at h;obtain⟨h1,h2,h3⟩:=h;rw [h1,zX h2,zX h3]) (neg,n,d) ⟨ln,ld,hd⟩
structure Two where
 p:Bool
 m:Nat
 d:Nat
 q:Bool
 n:Nat
 f:Nat
def Two.ok(x:Two):Prop:=(dec x.m).length≤400∧(dec x.d).length≤400∧0<x.d∧(dec x.n).length≤400∧(dec x.f).length≤400∧0<x.f
def Two.a(x:Two):List V:=[.bool x.p,.str (dec x.m),.str (dec x.d)]
def Two.b(x:Two):List V:=[.bool x.q,.str (dec x.n),.str (dec x.f)]
def Two.vs(x:Two):List V:=[.agg x.a,.agg x.b]
theorem Two.ab_inj {x y:Two}(ha:x.a=y.a)(hb:x.b=y.b):x=y:=by obtain⟨p,m,d,q,n,f⟩:=x;obtain⟨p',m',d',q',n',f'⟩:=y;simp only [Two.a,Two.b,List.cons.injEq,V.bool.injEq,V.str.injEq,and_true]at ha hb;obtain⟨rfl,h1,h2⟩:=ha;obtain⟨rfl,h3,h4⟩:=hb;rw [zX h1,zX h2,zX h3,zX h4]
theorem Two.vs_inj {x y:Two}(h:x.vs=y.vs):x=y:=by simp only [Two.vs,List.cons.injEq,V.agg.injEq,and_true]at h;exact Two.ab_inj h.1 h.2
def opN(k:Nat)(x:Two):Bool×Nat×Nat:=match k with
 |0=>(!(x.p==x.q),x.m*x.n,x.d*x.f)
 |1=>((sumS x.p (x.m*x.f) x.q (x.n*x.d)).1,(sumS x.p (x.m*x.f) x.q (x.n*x.d)).2,x.d*x.f)
 |_=>(!(x.p==x.q),x.m*x.f,x.d*x.n)
def opR(k:Nat)(x:Two):PR:=redR (opN k x).1 (opN k x).2.1 (opN k x).2.2
theorem zcz(neg:Bool)(n d:Nat):redR neg n d=.panic longV∨∃ s a b,redR neg n d=.ret (.agg [.bool s,.str a,.str b]):=by
 unfold redR;split
 ·exact .inl rfl
 ·exact .inr ⟨_,_,_,rfl⟩
set_option maxHeartbeats 4000000 in
set_option maxRecDepth 100000 in
theorem opMul_ok(x:Two)(hx:x.ok)(hz:True):PCall Tryz.prog 95 x.vs (opR 0 x):=by
 have hΓ:=zf zhh (zf zd3 (zf zfZ (zf zgv zh)));obtain⟨p,m,d,q,n,f⟩:=x;obtain⟨lm,ld,d0,ln,lf,f0⟩:=hx;simp only at lm ld d0 ln lf f0 hz;simp only [Two.vs,Two.a,Two.b,opR,opN];have l1:=zL lm lf;have l2:=zL ln ld;have l3:=zL ld lf;have l4:=zL lm ln;have l5:=zL ld ln;have h0:=Nat.mul_pos d0 f0;have l6:=zg2 (p:=p) (q:=q) l1 l2;refine PCall.walk (rs:=[.cell 4 87]) [0,1,2,3,4] [] mixed (hΓ) (zg) call95 Tryz.func95 rfl Tryz.ntmps95 rfl (by kernel_rfl) (by simp) (by simp [push_cast]) ?_;rcases zcz (!(p==q)) (m*n) (d*f)with hr|⟨s',a',b',hr⟩
 ·simp (disch:=first|assumption|(push_cast<;>omega)|omega) only [go_sem,hr];exact⟨by kernel_rfl,by kernel_rfl,.pure (.ifc (.agg (by simp)))⟩
 ·simp (disch:=first|assumption|(push_cast<;>omega)|omega) only [go_sem,hr];refine AXk.intro (by kernel_rfl) ?_;simp (disch:=first|assumption|(push_cast<;>omega)|omega) only [go_sem,hr];exact .pure (by simp [zV,zM,zO])
set_option maxHeartbeats 4000000 in
set_option maxRecDepth 100000 in
theorem opAdd_ok(x:Two)(hx:x.ok)(hz:True):PCall Tryz.prog 98 x.vs (opR 1 x):=by
 have hΓ:=zf zhh (zf zd3 (zf zfZ (zf zgv zh)));obtain⟨p,m,d,q,n,f⟩:=x;obtain⟨lm,ld,d0,ln,lf,f0⟩:=hx;simp only at lm ld d0 ln lf f0 hz;simp only [Two.vs,Two.a,Two.b,opR,opN];have l1:=zL lm lf;have l2:=zL ln ld;have l3:=zL ld lf;have l4:=zL lm ln;have l5:=zL ld ln;have h0:=Nat.mul_pos d0 f0;have l6:=zg2 (p:=p) (q:=q) l1 l2;refine PCall.walk (rs:=[.cell 4 87]) [0,1,2,3,4,5,6] [] mixed (hΓ) (zg) call98 Tryz.func98 rfl Tryz.ntmps98 rfl (by kernel_rfl) (by simp) (by simp [push_cast]) ?_;rcases zcz (sumS p (m*f) q (n*d)).1 (sumS p (m*f) q (n*d)).2 (d*f)with hr|⟨s',a',b',hr⟩
 ·simp (disch:=first|assumption|(push_cast<;>omega)|omega) only [go_sem,hr];refine AXk.intro (by kernel_rfl) ?_;simp (disch:=first|assumption|(push_cast<;>omega)|omega) only [go_sem,hr];exact .pure (.ifc (.agg (by simp)))
 ·simp (disch:=first|assumption|(push_cast<;>omega)|omega) only [go_sem,hr];refine AXk.intro (by kernel_rfl) ?_;simp (disch:=first|assumption|(push_cast<;>omega)|omega) only [go_sem,hr];exact .pure (by simp [zV,zM,zO])
set_option maxHeartbeats 4000000 in
set_option maxRecDepth 100000 in
theorem opDiv_ok(x:Two)(hx:x.ok)(hz:0<x.n):PCall Tryz.prog 99 x.vs (opR 2 x):=by
 have hΓ:=zf zhh (zf zd3 (zf zfZ (zf zgv zh)));obtain⟨p,m,d,q,n,f⟩:=x;obtain⟨lm,ld,d0,ln,lf,f0⟩:=hx;simp only at lm ld d0 ln lf f0 hz;simp only [Two.vs,Two.a,Two.b,opR,opN];have l1:=zL lm lf;have l2:=zL ln ld;have l3:=zL ld lf;have l4:=zL lm ln;have l5:=zL ld ln;have h0:=Nat.mul_pos d0 f0;have l6:=zg2 (p:=p) (q:=q) l1 l2;refine PCall.walk (rs:=[.cell 4 87]) [0,1,2,3,4] [] mixed (hΓ) (zg) call99 Tryz.func99 rfl Tryz.ntmps99 rfl (by kernel_rfl) (by simp) (by simp [push_cast]) ?_;have l7:=Nat.mul_pos d0 hz;rcases zcz (!(p==q)) (m*f) (d*n)with hr|⟨s',a',b',hr⟩
 ·simp (disch:=first|assumption|(push_cast<;>omega)|omega) only [go_sem,hr];exact⟨by kernel_rfl,by kernel_rfl,.pure (.ifc (.agg (by simp)))⟩
 ·simp (disch:=first|assumption|(push_cast<;>omega)|omega) only [go_sem,hr];refine AXk.intro (by kernel_rfl) ?_;simp (disch:=first|assumption|(push_cast<;>omega)|omega) only [go_sem,hr];exact .pure (by simp [zV,zM,zO])
noncomputable def cOpMul:List V→Option PR:=zD Two.vs (fun x=>x.ok∧True) (opR 0)
theorem zzv:∀ args r,cOpMul args=some r→PCall Tryz.prog 95 args r:=zo fun x h=>opMul_ok x h.1 h.2
theorem zzw(x:Two)(hx:x.ok)(hz:True):cOpMul [.agg x.a,.agg x.b]=some (opR 0 x):=zn (pat:=Two.vs) (fun _ _ h=>Two.vs_inj h) x ⟨hx,hz⟩
set_option maxHeartbeats 4000000 in
set_option maxRecDepth 100000 in
theorem zsl(x:Two)(hx:x.ok)(hz:True):PCall Tryz.prog 126 [.fp [.fn 95 []],.fp x.a,.fp x.b] (opR 0 x):=by
 have hΓ:=zf zzv zh;have hc:=zzw x hx hz;obtain⟨p,m,d,q,n,f⟩:=x;simp only [Two.a,Two.b]at hc ⊢;refine PCall.walk (rs:=[.cell 3 87]) [0,1,2,3] [] mixed (hΓ) (zg) zpM Tryz.func126 rfl Tryz.ntmps126 rfl (by kernel_rfl) (by simp) (by simp [push_cast]) ?_;rcases zcz (opN 0 ⟨p,m,d,q,n,f⟩).1 (opN 0 ⟨p,m,d,q,n,f⟩).2.1 (opN 0 ⟨p,m,d,q,n,f⟩).2.2 with hr|⟨s',a',b',hr⟩
 ·have hr':opR 0 ⟨p,m,d,q,n,f⟩=_:=hr;rw [hr']at hc ⊢;simp (disch:=first|assumption|(push_cast<;>omega)|omega) only [go_sem,hc];exact .pure (.ifc (.agg (by simp)))
 ·have hr':opR 0 ⟨p,m,d,q,n,f⟩=_:=hr;rw [hr']at hc ⊢;simp (disch:=first|assumption|(push_cast<;>omega)|omega) only [go_sem,hc];exact .pure (by simp [zV,zM,zO])
noncomputable def cOpAdd:List V→Option PR:=zD Two.vs (fun x=>x.ok∧True) (opR 1)
theorem zzz:∀ args r,cOpAdd args=some r→PCall Tryz.prog 98 args r:=zo fun x h=>opAdd_ok x h.1 h.2
theorem zzA(x:Two)(hx:x.ok)(hz:True):cOpAdd [.agg x.a,.agg x.b]=some (opR 1 x):=zn (pat:=Two.vs) (fun _ _ h=>Two.vs_inj h) x ⟨hx,hz⟩
set_option maxHeartbeats 4000000 in
set_option maxRecDepth 100000 in
theorem zsn(x:Two)(hx:x.ok)(hz:True):PCall Tryz.prog 126 [.fp [.fn 98 []],.fp x.a,.fp x.b] (opR 1 x):=by
 have hΓ:=zf zzz zh;have hc:=zzA x hx hz;obtain⟨p,m,d,q,n,f⟩:=x;simp only [Two.a,Two.b]at hc ⊢;refine PCall.walk (rs:=[.cell 3 87]) [0,1,2,3] [] mixed (hΓ) (zg) zpM Tryz.func126 rfl Tryz.ntmps126 rfl (by kernel_rfl) (by simp) (by simp [push_cast]) ?_;rcases zcz (opN 1 ⟨p,m,d,q,n,f⟩).1 (opN 1 ⟨p,m,d,q,n,f⟩).2.1 (opN 1 ⟨p,m,d,q,n,f⟩).2.2 with hr|⟨s',a',b',hr⟩
 ·have hr':opR 1 ⟨p,m,d,q,n,f⟩=_:=hr;rw [hr']at hc ⊢;simp (disch:=first|assumption|(push_cast<;>omega)|omega) only [go_sem,hc];exact .pure (.ifc (.agg (by simp)))
 ·have hr':opR 1 ⟨p,m,d,q,n,f⟩=_:=hr;rw [hr']at hc ⊢;simp (disch:=first|assumption|(push_cast<;>omega)|omega) only [go_sem,hc];exact .pure (by simp [zV,zM,zO])
noncomputable def cOpDiv:List V→Option PR:=zD Two.vs (fun x=>x.ok∧0<x.n) (opR 2)
theorem zzx:∀ args r,cOpDiv args=some r→PCall Tryz.prog 99 args r:=zo fun x h=>opDiv_ok x h.1 h.2
theorem zzy(x:Two)(hx:x.ok)(hz:0<x.n):cOpDiv [.agg x.a,.agg x.b]=some (opR 2 x):=zn (pat:=Two.vs) (fun _ _ h=>Two.vs_inj h) x ⟨hx,hz⟩
set_option maxHeartbeats 4000000 in
set_option maxRecDepth 100000 in
theorem zsm(x:Two)(hx:x.ok)(hz:0<x.n):PCall Tryz.prog 126 [.fp [.fn 99 []],.fp x.a,.fp x.b] (opR 2 x):=by
 have hΓ:=zf zzx zh;have hc:=zzy x hx hz;obtain⟨p,m,d,q,n,f⟩:=x;simp only [Two.a,Two.b]at hc ⊢;refine PCall.walk (rs:=[.cell 3 87]) [0,1,2,3] [] mixed (hΓ) (zg) zpM Tryz.func126 rfl Tryz.ntmps126 rfl (by kernel_rfl) (by simp) (by simp [push_cast]) ?_;rcases zcz (opN 2 ⟨p,m,d,q,n,f⟩).1 (opN 2 ⟨p,m,d,q,n,f⟩).2.1 (opN 2 ⟨p,m,d,q,n,f⟩).2.2 with hr|⟨s',a',b',hr⟩
 ·have hr':opR 2 ⟨p,m,d,q,n,f⟩=_:=hr;rw [hr']at hc ⊢;simp (disch:=first|assumption|(push_cast<;>omega)|omega) only [go_sem,hc];exact .pure (.ifc (.agg (by simp)))
 ·have hr':opR 2 ⟨p,m,d,q,n,f⟩=_:=hr;rw [hr']at hc ⊢;simp (disch:=first|assumption|(push_cast<;>omega)|omega) only [go_sem,hc];exact .pure (by simp [zV,zM,zO])
theorem zw2(neg:Bool)(n d:Nat)(hd:0<d):numT (neg&&decide (n≠0)) (n / Nat.gcd n d) (d / Nat.gcd n d)=ratT neg (n / Nat.gcd n d) (d / Nat.gcd n d):=by
 have hg:0<Nat.gcd n d:=Nat.gcd_pos_of_pos_right _ hd;have h0:n / Nat.gcd n d=0↔n=0:=by
  constructor
  ·intro h;rcases Nat.eq_zero_or_pos n with h1|h1
   ·exact h1
   ·have h2:=Nat.le_of_dvd h1 (Nat.gcd_dvd_left n d);have h3:=Nat.div_pos h2 hg;omega
  ·intro h;rw [h];simp
 unfold numT ratT;by_cases h1:n=0
 ·simp [h1]
 ·have h2:¬n / Nat.gcd n d=0:=fun h=>h1 (h0.1 h);cases neg<;>simp [h1,h2]
theorem zw0 {x:Two}(hx:x.ok):0<(opN 0 x).2.2∧0<(opN 1 x).2.2:=⟨Nat.mul_pos hx.2.2.1 hx.2.2.2.2.2,Nat.mul_pos hx.2.2.1 hx.2.2.2.2.2⟩
theorem zf6 {caps:List V}{neg:Bool}{n d:Nat}(hd:0<d)(h:PCall Tryz.prog 126 caps (redR neg n d)):PCall Tryz.prog 125 [.fn 126 caps] (.ret (mkV neg n d)):=by
 unfold redR at h;unfold mkV;by_cases hl:zdO (n / Nat.gcd n d)=true∨zdO (d / Nat.gcd n d)=true
 ·rw [if_pos hl]at h ⊢;exact zvq h
 ·rw [if_neg hl]at h ⊢;have hl':¬(400<(dec (n / Nat.gcd n d)).length∨400<(dec (d / Nat.gcd n d)).length):=by simpa [zdO] using hl
  rw [←zw2 neg n d hd];exact zvp h (zs3 _ _ _ (by omega) (by omega))
noncomputable def cWrMul:List V→Option PR:=zD (fun x:Two=>[.fn 126 [.fp [.fn 95 []],.fp x.a,.fp x.b]]) (fun x=>x.ok∧True) (fun x=>.ret (mkV (opN 0 x).1 (opN 0 x).2.1 (opN 0 x).2.2))
theorem zy6:∀ args r,cWrMul args=some r→PCall Tryz.prog 125 args r:=zo fun x h=>zf6 ((zw0 h.1).1) (zsl x h.1 h.2)
theorem zy7(x:Two)(hx:x.ok)(hz:True):cWrMul [.fn 126 [.fp [.fn 95 []],.fp x.a,.fp x.b]]=some (.ret (mkV (opN 0 x).1 (opN 0 x).2.1 (opN 0 x).2.2)):=
 zn (pat:=fun x:Two=>[V.fn 126 [.fp [.fn 95 []],.fp x.a,.fp x.b]]) (fun _ _ h=>by simp only [List.cons.injEq,V.fn.injEq,V.fp.injEq,true_and,and_true]at h;exact Two.ab_inj h.1 h.2) x ⟨hx,hz⟩
set_option maxHeartbeats 8000000 in
set_option maxRecDepth 100000 in
theorem zlJ(a b:List UInt8)(la:a.length≤1000000000)(lb:b.length≤1000000000)(hz:True):PCall Tryz.prog 94 [.str a,.str b,.fn 95 []] (.ret (zK a b)):=by
 have hΓ:=zf zeB (zf zy6 zh);refine PCall.walk (rs:=[.tmp 6,.tmp 7]) [0,1,2,5,6,7,8,9,10,11,27] [] mixed (hΓ) (zg) zy3 Tryz.func94 rfl Tryz.ntmps94 rfl (by kernel_rfl) (by simp) (by simp [push_cast]) ?_;cases ha:ratP a with
 |none=>
  rw [zsS b ha];cases hb:ratP b with
  |none=>simp (disch:=first|assumption|(push_cast<;>omega)|omega) only [go_sem,ha,hb,errV]
  |some y=>
   obtain⟨q,n,f⟩:=y;simp (disch:=first|assumption|(push_cast<;>omega)|omega) only [go_sem,ha,hb,errV]
 |some x=>
  obtain⟨p,m,d⟩:=x;cases hb:ratP b with
  |none=>
   rw [zsR a hb];simp (disch:=first|assumption|(push_cast<;>omega)|omega) only [go_sem,ha,hb,errV]
  |some y=>
   obtain⟨q,n,f⟩:=y;rw [zhQ ha hb];obtain⟨lm,ld,d0⟩:=zcc ha;obtain⟨ln,lf,f0⟩:=zcc hb;have hc:=zy7 ⟨p,m,d,q,n,f⟩ ⟨lm,ld,d0,ln,lf,f0⟩ (trivial);simp only [Two.a,Two.b,opN]at hc;obtain⟨s,e,hse⟩:=ze7 (!(p==q)) (m*n) (d*f);rw [hse]at hc ⊢;simp (disch:=first|assumption|(push_cast<;>omega)|omega) only [go_sem,ha,hb,hc]
noncomputable def cWrAdd:List V→Option PR:=zD (fun x:Two=>[.fn 126 [.fp [.fn 98 []],.fp x.a,.fp x.b]]) (fun x=>x.ok∧True) (fun x=>.ret (mkV (opN 1 x).1 (opN 1 x).2.1 (opN 1 x).2.2))
theorem zza:∀ args r,cWrAdd args=some r→PCall Tryz.prog 125 args r:=zo fun x h=>zf6 ((zw0 h.1).2) (zsn x h.1 h.2)
theorem zzb(x:Two)(hx:x.ok)(hz:True):cWrAdd [.fn 126 [.fp [.fn 98 []],.fp x.a,.fp x.b]]=some (.ret (mkV (opN 1 x).1 (opN 1 x).2.1 (opN 1 x).2.2)):=
 zn (pat:=fun x:Two=>[V.fn 126 [.fp [.fn 98 []],.fp x.a,.fp x.b]]) (fun _ _ h=>by simp only [List.cons.injEq,V.fn.injEq,V.fp.injEq,true_and,and_true]at h;exact Two.ab_inj h.1 h.2) x ⟨hx,hz⟩
set_option maxHeartbeats 8000000 in
set_option maxRecDepth 100000 in
theorem zlL(a b:List UInt8)(la:a.length≤1000000000)(lb:b.length≤1000000000)(hz:True):PCall Tryz.prog 94 [.str a,.str b,.fn 98 []] (.ret (zG a b)):=by
 have hΓ:=zf zeB (zf zza zh);refine PCall.walk (rs:=[.tmp 6,.tmp 7]) [0,1,2,5,6,7,8,9,10,11,27] [] mixed (hΓ) (zg) zy3 Tryz.func94 rfl Tryz.ntmps94 rfl (by kernel_rfl) (by simp) (by simp [push_cast]) ?_;cases ha:ratP a with
 |none=>
  rw [zjy b ha];cases hb:ratP b with
  |none=>simp (disch:=first|assumption|(push_cast<;>omega)|omega) only [go_sem,ha,hb,errV]
  |some y=>
   obtain⟨q,n,f⟩:=y;simp (disch:=first|assumption|(push_cast<;>omega)|omega) only [go_sem,ha,hb,errV]
 |some x=>
  obtain⟨p,m,d⟩:=x;cases hb:ratP b with
  |none=>
   rw [zjx a hb];simp (disch:=first|assumption|(push_cast<;>omega)|omega) only [go_sem,ha,hb,errV]
  |some y=>
   obtain⟨q,n,f⟩:=y;rw [zdg ha hb];obtain⟨lm,ld,d0⟩:=zcc ha;obtain⟨ln,lf,f0⟩:=zcc hb;have hc:=zzb ⟨p,m,d,q,n,f⟩ ⟨lm,ld,d0,ln,lf,f0⟩ (trivial);simp only [Two.a,Two.b,opN]at hc;obtain⟨s,e,hse⟩:=ze7 (sumS p (m*f) q (n*d)).1 (sumS p (m*f) q (n*d)).2 (d*f);rw [hse]at hc ⊢;simp (disch:=first|assumption|(push_cast<;>omega)|omega) only [go_sem,ha,hb,hc]
noncomputable def cWrDiv:List V→Option PR:=zD (fun x:Two=>[.fn 126 [.fp [.fn 99 []],.fp x.a,.fp x.b]]) (fun x=>x.ok∧0<x.n) (fun x=>.ret (mkV (opN 2 x).1 (opN 2 x).2.1 (opN 2 x).2.2))
theorem zy8:∀ args r,cWrDiv args=some r→PCall Tryz.prog 125 args r:=zo fun x h=>zf6 (Nat.mul_pos h.1.2.2.1 h.2) (zsm x h.1 h.2)
theorem zy9(x:Two)(hx:x.ok)(hz:0<x.n):cWrDiv [.fn 126 [.fp [.fn 99 []],.fp x.a,.fp x.b]]=some (.ret (mkV (opN 2 x).1 (opN 2 x).2.1 (opN 2 x).2.2)):=
 zn (pat:=fun x:Two=>[V.fn 126 [.fp [.fn 99 []],.fp x.a,.fp x.b]]) (fun _ _ h=>by simp only [List.cons.injEq,V.fn.injEq,V.fp.injEq,true_and,and_true]at h;exact Two.ab_inj h.1 h.2) x ⟨hx,hz⟩
set_option maxHeartbeats 8000000 in
set_option maxRecDepth 100000 in
theorem zlK(a b:List UInt8)(la:a.length≤1000000000)(lb:b.length≤1000000000)(hz:∀ q n f,(ratP a).isSome=true→ratP b=some (q,n,f)→0<n):PCall Tryz.prog 94 [.str a,.str b,.fn 99 []] (.ret (zaW a b)):=by
 have hΓ:=zf zeB (zf zy8 zh);refine PCall.walk (rs:=[.tmp 6,.tmp 7]) [0,1,2,5,6,7,8,9,10,11,27] [] mixed (hΓ) (zg) zy3 Tryz.func94 rfl Tryz.ntmps94 rfl (by kernel_rfl) (by simp) (by simp [push_cast]) ?_;cases ha:ratP a with
 |none=>
  rw [zsV b ha];cases hb:ratP b with
  |none=>simp (disch:=first|assumption|(push_cast<;>omega)|omega) only [go_sem,ha,hb,errV]
  |some y=>
   obtain⟨q,n,f⟩:=y;simp (disch:=first|assumption|(push_cast<;>omega)|omega) only [go_sem,ha,hb,errV]
 |some x=>
  obtain⟨p,m,d⟩:=x;cases hb:ratP b with
  |none=>
   rw [zsU a hb];simp (disch:=first|assumption|(push_cast<;>omega)|omega) only [go_sem,ha,hb,errV]
  |some y=>
   obtain⟨q,n,f⟩:=y;rw [zfy ha hb];obtain⟨lm,ld,d0⟩:=zcc ha;obtain⟨ln,lf,f0⟩:=zcc hb;have hc:=zy9 ⟨p,m,d,q,n,f⟩ ⟨lm,ld,d0,ln,lf,f0⟩ (hz q n f (by rw [ha,Option.isSome_some]) hb);simp only [Two.a,Two.b,opN]at hc;rw [if_neg (by have:=hz q n f (by rw [ha,Option.isSome_some]) hb;omega)];obtain⟨s,e,hse⟩:=ze7 (!(p==q)) (m*f) (d*n);rw [hse]at hc ⊢;simp (disch:=first|assumption|(push_cast<;>omega)|omega) only [go_sem,ha,hb,hc]
end Go.Proofs

namespace Go.Proofs
open Go.Ab Go.Pl
theorem zhN {a:List UInt8}(h1:(zB a).1=false)(h2:(zB a).2.2.2=false):(zB a).2.1=a:=by
 unfold zB at*;simp only at*;split at h1
 ·split at h2
  ·cases h2
  ·rename_i e1 _ e2;rw [e1]at e2;cases e2
 ·rename_i e1;simp only [e1];simp only at h1;rw [h1];rfl
theorem zhO {b:List UInt8}{q:Bool}{f:Nat}(h:ratP b=some (q,0,f)):b=[48]:=by
 unfold ratP at h;split at h
 case isFalse=>cases h
 case isTrue hk=>
  simp only [Option.some.injEq,Prod.mk.injEq]at h
  obtain⟨_,h1,_⟩:=h
  simp only [zbP,Bool.and_eq_true,decide_eq_true_eq]at hk
  obtain⟨⟨⟨⟨k1,k2⟩,k3⟩,k4⟩,k5⟩:=hk
  have e1:=zak (shortN_iff.1 k1).1
  have e2:=zak (shortN_iff.1 k2).1
  rw [h1]at e1 k5
  rw [Nat.gcd_zero_left]at k5
  rw [k5]at e2
  have e3:(zB b).2.1=[48]:=e1.symm
  have e4:(zB b).2.2.1=[49]:=e2.symm
  rw [e3]at k3
  rw [e4]at k4
  have n1:(zB b).1=false:=by cases h:(zB b).1<;>simp_all
  have n2:(zB b).2.2.2=false:=by cases h:(zB b).2.2.2<;>simp_all
  rw [←zhN n1 n2];exact e3
theorem zkM:ratP [48]=some (false,0,1):=by rfl
noncomputable def cCpMul:List V→Option PR:=zD (fun p:List UInt8×List UInt8=>[.str p.1,.str p.2,.fn 95 []]) (fun p=>p.1.length≤1000000000∧p.2.length≤1000000000) (fun p=>.ret (zK p.1 p.2))
theorem zz1:∀ args r,cCpMul args=some r→PCall Tryz.prog 94 args r:=zo fun p h=>zlJ p.1 p.2 h.1 h.2 trivial
theorem zz2(a b:List UInt8)(la:a.length≤1000000000)(lb:b.length≤1000000000):cCpMul [.str a,.str b,.fn 95 []]=some (.ret (zK a b)):=
 zn (pat:=fun p:List UInt8×List UInt8=>[V.str p.1,.str p.2,.fn 95 []]) (fun x y h=>by simp at h;exact Prod.ext h.1 h.2) (a,b) ⟨la,lb⟩
set_option maxRecDepth 100000 in
theorem zwn(a b:List UInt8)(la:a.length≤1000000000)(lb:b.length≤1000000000):PCall Tryz.prog 63 [.str a,.str b] (.ret (zK a b)):=by
 have hΓ:=zf zz1 zh;have hc:=zz2 a b la lb;obtain⟨s,e,hse⟩:=zhP a b;rw [hse]at hc ⊢;refine PCall.walk (rs:=[.tmp 4,.tmp 5]) [0,1,4,5] [] mixed (hΓ) (zg) call63 Tryz.func63 rfl Tryz.ntmps63 rfl (by kernel_rfl) (by simp) (by simp [push_cast]) ?_;simp (disch:=first|assumption|(push_cast<;>omega)|omega) only [go_sem,hc]
noncomputable def cCpAdd:List V→Option PR:=zD (fun p:List UInt8×List UInt8=>[.str p.1,.str p.2,.fn 98 []]) (fun p=>p.1.length≤1000000000∧p.2.length≤1000000000) (fun p=>.ret (zG p.1 p.2))
theorem zz5:∀ args r,cCpAdd args=some r→PCall Tryz.prog 94 args r:=zo fun p h=>zlL p.1 p.2 h.1 h.2 trivial
theorem zz6(a b:List UInt8)(la:a.length≤1000000000)(lb:b.length≤1000000000):cCpAdd [.str a,.str b,.fn 98 []]=some (.ret (zG a b)):=
 zn (pat:=fun p:List UInt8×List UInt8=>[V.str p.1,.str p.2,.fn 98 []]) (fun x y h=>by simp at h;exact Prod.ext h.1 h.2) (a,b) ⟨la,lb⟩
set_option maxRecDepth 100000 in
theorem zwt(a b:List UInt8)(la:a.length≤1000000000)(lb:b.length≤1000000000):PCall Tryz.prog 65 [.str a,.str b] (.ret (zG a b)):=by
 have hΓ:=zf zz5 zh;have hc:=zz6 a b la lb;obtain⟨s,e,hse⟩:=ze3 a b;rw [hse]at hc ⊢;refine PCall.walk (rs:=[.tmp 4,.tmp 5]) [0,1,4,5] [] mixed (hΓ) (zg) call65 Tryz.func65 rfl Tryz.ntmps65 rfl (by kernel_rfl) (by simp) (by simp [push_cast]) ?_;simp (disch:=first|assumption|(push_cast<;>omega)|omega) only [go_sem,hc]
noncomputable def cCpDiv:List V→Option PR:=zD (fun p:List UInt8×List UInt8=>[.str p.1,.str p.2,.fn 99 []]) (fun p=>p.1.length≤1000000000∧p.2.length≤1000000000∧∀ q n f,(ratP p.1).isSome=true→ratP p.2=some (q,n,f)→0<n) (fun p=>.ret (zaW p.1 p.2))
theorem zz3:∀ args r,cCpDiv args=some r→PCall Tryz.prog 94 args r:=zo fun p h=>zlK p.1 p.2 h.1 h.2.1 h.2.2
theorem zz4(a b:List UInt8)(la:a.length≤1000000000)(lb:b.length≤1000000000)(hz:∀ q n f,(ratP a).isSome=true→ratP b=some (q,n,f)→0<n):cCpDiv [.str a,.str b,.fn 99 []]=some (.ret (zaW a b)):=
 zn (pat:=fun p:List UInt8×List UInt8=>[V.str p.1,.str p.2,.fn 99 []]) (fun x y h=>by simp at h;exact Prod.ext h.1 h.2) (a,b) ⟨la,lb,hz⟩
set_option maxRecDepth 100000 in
theorem zwo(a b:List UInt8)(la:a.length≤1000000000)(lb:b.length≤1000000000):PCall Tryz.prog 66 [.str a,.str b] (.ret (zaW a b)):=by
 have hΓ:=zf zex (zf zz3 zh);refine PCall.walk (rs:=[.tmp 4,.tmp 5]) [0,1,4,5,11] [] mixed (hΓ) (zg) call66 Tryz.func66 rfl Tryz.ntmps66 rfl (by kernel_rfl) (by simp) (by simp [push_cast]) ?_;obtain⟨s,e,hse⟩:=zhR a b;by_cases h0:(ratP a).isSome=true∧b=[48]
 ·obtain⟨h1,h2⟩:=h0;subst h2;obtain⟨⟨p,m,d⟩,hp⟩:=Option.isSome_iff_exists.1 h1;rw [zfy hp zkM,if_pos rfl];simp (disch:=first|assumption|(push_cast<;>omega)|omega) only [go_sem,hp,Option.isSome_some,errV]
 ·have hc:=zz4 a b la lb (fun q n f h1 h2=>by
   rcases Nat.eq_zero_or_pos n with h3|h3
   ·subst h3;exact absurd ⟨h1,zhO h2⟩ h0
   ·exact h3)
  have hb:((ratP a).isSome&&decide (b=[48]))=false:=by
   rw [Bool.and_eq_false_iff];by_cases h1:(ratP a).isSome=true
   ·exact .inr (decide_eq_false fun h2=>h0 ⟨h1,h2⟩)
   ·exact .inl (by simpa using h1)
  rw [hse]at hc ⊢
  simp (disch:=first|assumption|(push_cast<;>omega)|omega) only [go_sem,hc]
  rw [hb]
  simp (disch:=first|assumption|(push_cast<;>omega)|omega) only [go_sem,hc]
noncomputable def zpP:List V→Option PR:=zD (fun p:List UInt8×List UInt8=>[.str p.1,.str p.2]) (fun p=>p.1.length≤1000000000∧p.2.length≤1000000000) (fun p=>.ret (zK p.1 p.2))
theorem zuE:∀ args r,zpP args=some r→PCall Tryz.prog 63 args r:=zo fun p h=>zwn p.1 p.2 h.1 h.2
theorem zuF(a b:List UInt8)(la:a.length≤1000000000)(lb:b.length≤1000000000):zpP [.str a,.str b]=some (.ret (zK a b)):=
 zn (pat:=fun p:List UInt8×List UInt8=>[V.str p.1,.str p.2]) (fun x y h=>by simp at h;exact Prod.ext h.1 h.2) (a,b) ⟨la,lb⟩
noncomputable def zpS:List V→Option PR:=zD (fun p:List UInt8×List UInt8=>[.str p.1,.str p.2]) (fun p=>p.1.length≤1000000000∧p.2.length≤1000000000) (fun p=>.ret (zG p.1 p.2))
theorem zuJ:∀ args r,zpS args=some r→PCall Tryz.prog 65 args r:=zo fun p h=>zwt p.1 p.2 h.1 h.2
theorem zuK(a b:List UInt8)(la:a.length≤1000000000)(lb:b.length≤1000000000):zpS [.str a,.str b]=some (.ret (zG a b)):=
 zn (pat:=fun p:List UInt8×List UInt8=>[V.str p.1,.str p.2]) (fun x y h=>by simp at h;exact Prod.ext h.1 h.2) (a,b) ⟨la,lb⟩
noncomputable def zpQ:List V→Option PR:=zD (fun p:List UInt8×List UInt8=>[.str p.1,.str p.2]) (fun p=>p.1.length≤1000000000∧p.2.length≤1000000000) (fun p=>.ret (zaW p.1 p.2))
theorem zuG:∀ args r,zpQ args=some r→PCall Tryz.prog 66 args r:=zo fun p h=>zwo p.1 p.2 h.1 h.2
theorem zuH(a b:List UInt8)(la:a.length≤1000000000)(lb:b.length≤1000000000):zpQ [.str a,.str b]=some (.ret (zaW a b)):=
 zn (pat:=fun p:List UInt8×List UInt8=>[V.str p.1,.str p.2]) (fun x y h=>by simp at h;exact Prod.ext h.1 h.2) (a,b) ⟨la,lb⟩
end Go.Proofs

namespace Go.Ab
def FzB(H:Hp)(F:Nat→Prop)(n:Nat)(x' x:Blk):Prop:=
 RnB id (fun b=>¬F b∧b<n) x' x∨∃ cs cs',x=.cells cs∧x'=.cells cs'∧cs'.length=cs.length∧∀(i:Nat) (u v:V),cs[i]? =some u→cs'[i]? =some v→Rn id (fun b=>¬F b∧b<n) v u∨FrzF H F u v
structure Fz2(nx:Nat)(F:Nat→Prop)(s s':St):Prop where
 env:∀ t v',s'.env.lookup t=some v'→v'=.any∨∃ v,s.env.lookup t=some v∧(Rn id (fun b=>¬F b∧b<s'.h.next) v' v∨FrzF s.h F v v')
 heap:∀ b x',s'.h.get b=some x'→b<s'.h.next∧¬F b∧∃ x,s.h.get b=some x∧FzB s.h F s'.h.next x' x
 live:∀ b,F b→nx≤b∧∃ x,s.h.get b=some x
 elder:∀ b,b<nx→s'.h.get b=s.h.get b
 next:nx≤s'.h.next
end Go.Ab

namespace Go.Proofs
open Go.Ab Go.Cnt Go.Pl
def slS(b:Nat)(l:List Str):V:=match l with|[]=>.nilS|_=>.sl b 0 l.length 1 none
def blkS(b:Nat)(l:List Str)(bs:List (Nat×Blk)):List (Nat×Blk):=match l with|[]=>bs|_=>(b,.cells (strs l))::bs
theorem zdD(b:Nat):slS b []=.nilS:=rfl
theorem zcx(b:Nat)(bs:List (Nat×Blk)):blkS b [] bs=bs:=rfl
theorem za1(b:Nat){l:List Str}(h:l≠[]):slS b l=.sl b 0 l.length 1 none:=by cases l with|nil=>exact absurd rfl h|cons e l=>rfl
theorem zay(b:Nat){l:List Str}(h:l≠[])(bs:List (Nat×Blk)):blkS b l bs=(b,.cells (strs l))::bs:=by cases l with|nil=>exact absurd rfl h|cons e l=>rfl
theorem frz_agg4(H:Hp)(a b c d a' b' c' d':V):Frz H (.agg [a,b,c,d]) (.agg [a',b',c',d'])↔Frz H a a'∧Frz H b b'∧Frz H c c'∧Frz H d d':=by
 constructor
 ·intro h;cases h with
  |pure hp=>have h4:=(zV _).1 hp;exact⟨.pure (h4 _ (by simp)),.pure (h4 _ (by simp)),.pure (h4 _ (by simp)),.pure (h4 _ (by simp))⟩
  |agg hl h=>exact⟨h 0 a a' rfl rfl,h 1 b b' rfl rfl,h 2 c c' rfl rfl,h 3 d d' rfl rfl⟩
 ·rintro⟨h1,h2,h3,h4⟩;refine .agg rfl fun i x y hx hy=>?_;match i with
  |0=>cases hx;cases hy;exact h1
  |1=>cases hx;cases hy;exact h2
  |2=>cases hx;cases hy;exact h3
  |3=>cases hx;cases hy;exact h4
  |i+4=>simp at hx
attribute [go_sem] frz_agg4
theorem zab:za8 []=[]:=rfl
theorem zee {A B:List Ent}(h:zcq A B=true):zdd A∧zdd B:=by
 unfold zcq vB at h;simp only [Bool.and_eq_true]at h;have key:∀ {q:Str→Bool} {l:List Ent},l.all (zes q)=true→zdd l:=fun hl e he=>by have:=List.all_eq_true.1 hl e he;unfold zes at this;simp at this;omega
 exact⟨key h.1.1.2,key h.2.1.2⟩
theorem zby(a:List (List Str))(x:List Str):za8 a++[.fs (strs x) x.length]=za8 (a++[x]):=by unfold za8 Row.cells;simp [rowR]
theorem zad(m:List (List Str)):(za8 m).all V.one=true:=by refine List.all_eq_true.2 fun x hx=>?_;unfold za8 Row.cells at hx;obtain⟨a,_,ha⟩:=List.mem_flatMap.1 hx;simp only [rowR,List.mem_cons,List.not_mem_nil,or_false]at ha;subst ha;rfl
theorem zA {m:List (List Str)}(i:Nat)(h:m.length=i):(za8 m).take i=za8 m:=List.take_of_length_le (by rw [zbB];omega)
def slM(b:Nat)(l:List (List Str)):V:=match l with|[]=>.nilS|_=>.sl b 0 l.length 1 none
def blkM(b:Nat)(l:List (List Str))(bs:List (Nat×Blk)):List (Nat×Blk):=match l with|[]=>bs|_=>(b,.cells (za8 l))::bs
theorem zef(b:Nat):slM b []=.nilS:=rfl
theorem zc3(b:Nat)(bs:List (Nat×Blk)):blkM b [] bs=bs:=rfl
theorem zcr(b:Nat){l:List (List Str)}(h:l≠[]):slM b l=.sl b 0 l.length 1 none:=by cases l with|nil=>exact absurd rfl h|cons e l=>rfl
theorem zbv(b:Nat){l:List (List Str)}(h:l≠[])(bs:List (Nat×Blk)):blkM b l bs=(b,.cells (za8 l))::bs:=by cases l with|nil=>exact absurd rfl h|cons e l=>rfl
def upR(r:Nat→Int×List Str)(i:Nat):List (List Str):=(List.range i).map fun j=>(r j).2
theorem zkn(r:Nat→Int×List Str):upR r 0=[]:=rfl
theorem zdz(r:Nat→Int×List Str)(i:Nat):upR r (i+1)=upR r i++[(r i).2]:=by simp [upR,List.range_succ]
theorem zfR {T W:List Str}{rN rE:Nat→Int×List Str}(h:okR rN rE T.length)(h0:(rN T.length).1=0):estG T W rN rE=(⟨T,W,upR rN (T.length+1),upR rE T.length⟩,0):=zyp h h0
theorem zcF(r:Nat→Int×List Str)(i:Nat):(upR r i).length=i:=by simp [upR]
theorem zd6(r:Nat→Int×List Str){i:Nat}(h:0<i):upR r i≠[]:=by intro e;have:=congrArg List.length e;rw [zcF]at this;simp at this;omega
theorem zrg(T:List Str):(T++[[]]).getD T.length []=[]:=by simp
theorem getD_in(T:List Str){i:Nat}(h:i<T.length):(T++[[]]).getD i []=T.getD i []:=by rw [List.getD_eq_getElem?_getD,List.getElem?_append_left h,List.getD_eq_getElem?_getD]
end Go.Proofs
