/- rat: text, reduce, Mul, Add, Div. -/
import Derived.Test.YtfilkkmcagndlaaGreatDoorAbEvP
import Derived.Test.YtfilkkmcagndlaaGreatDoorF3b
import Derived.Test.YtfilkkmcagndlaaGreatDoorAbRules
set_option linter.all false
namespace Go.Proofs
open Go.Ab Go.Pl
def numT(s:Bool)(n d:Nat):List UInt8:=(if s=true then [45]else [])++dec n++(if d=1 then []else 47::dec d)
set_option maxHeartbeats 4000000 in
set_option maxRecDepth 100000 in
theorem ztn(s:Bool)(n d:Nat)(hn:(dec n).length≤400)(hd:(dec d).length≤400):PCall Tryz.prog 156 [.agg [.bool s,.str (dec n),.str (dec d)]] (.ret (.str (numT s n d))):=by
 refine PCall.walk (rs:=[.tmp 2]) [0,1,2,3,7,12] [] mixed (zh) (zg) call156 Tryz.func156 rfl Tryz.ntmps156 rfl (by kernel_rfl) (by simp) (by simp [push_cast]) ?_;have hz:decide (dec d=[49])=decide (d=1):=by have:dec d=[49]↔d=1:=⟨fun h=>zah (h.trans (by rfl:([49]:List UInt8)=dec 1)),fun h=>by subst h;rfl⟩;simp only [this]
 cases s with
 |true=>
  simp (disch:=first|assumption|(push_cast<;>omega)|omega) only [go_sem];refine⟨by omega,?_⟩;rw [hz];refine AXc.introN (fun h1=>?_) (fun h1=>?_)
  ·simp (disch:=first|assumption|(push_cast<;>omega)|omega) only [go_sem,numT,h1];omega
  ·simp (disch:=first|assumption|(push_cast<;>omega)|omega) only [go_sem,numT,h1]
 |false=>
  simp (disch:=first|assumption|(push_cast<;>omega)|omega) only [go_sem];rw [hz];refine AXc.introN (fun h1=>?_) (fun h1=>?_)
  ·simp (disch:=first|assumption|(push_cast<;>omega)|omega) only [go_sem,numT,h1];omega
  ·simp (disch:=first|assumption|(push_cast<;>omega)|omega) only [go_sem,numT,h1]
def redR(neg:Bool)(n d:Nat):PR:=if zd5 (n / Nat.gcd n d)=true∨zd5 (d / Nat.gcd n d)=true then .panic longV else .ret (.agg [.bool (neg&&decide (n≠0)),.str (dec (n / Nat.gcd n d)),.str (dec (d / Nat.gcd n d))])
set_option maxHeartbeats 4000000 in
set_option maxRecDepth 100000 in
theorem zwL(neg:Bool)(n d:Nat)(hn:(dec n).length≤1000)(hd:(dec d).length≤1000)(h0:0<d):PCall Tryz.prog 96 [.bool neg,.str (dec n),.str (dec d)] (redR neg n d):=by
 have hΓ:=zf zr8 (zf zek (zf cQuot_ok zh));have hg:=zyz (m:=n) h0 hd;have hg0:0<Nat.gcd n d:=Nat.gcd_pos_of_pos_right _ h0;have hz:decide (dec n=[48])=decide (n=0):=by simp only [dec_is_zero]
 unfold redR;by_cases hl:zd5 (n / Nat.gcd n d)=true∨zd5 (d / Nat.gcd n d)=true
 ·rw [if_pos hl];have hl':400<(dec (n / Nat.gcd n d)).length∨400<(dec (d / Nat.gcd n d)).length:=by simpa [zd5] using hl
  refine PCall.walk (rs:=[.cell 6 87]) [0,1,2,6,7,8,36] [] mixed (hΓ) (zg) call96 Tryz.func96 rfl Tryz.ntmps96 rfl (by kernel_rfl) (by simp) (by simp [push_cast]) ?_;simp (disch:=first|assumption|(push_cast<;>omega)|omega) only [go_sem];rw [show (decide (400<((dec (n / Nat.gcd n d)).length:Int))||decide (400<((dec (d / Nat.gcd n d)).length:Int)))=true by simp;omega];simp (disch:=first|assumption|(push_cast<;>omega)|omega) only [go_sem];simp only [zbl];simp (disch:=first|assumption|(push_cast<;>omega)|omega) only [go_sem];exact .pure (.ifc (.agg (by simp)))
 ·rw [if_neg hl];have hl':¬(400<(dec (n / Nat.gcd n d)).length∨400<(dec (d / Nat.gcd n d)).length):=by simpa [zd5] using hl
  refine PCall.walk (rs:=[.cell 6 87]) [0,1,2,6,7,8,36] [] mixed (hΓ) (zg) call96 Tryz.func96 rfl Tryz.ntmps96 rfl (by kernel_rfl) (by simp) (by simp [push_cast]) ?_;simp (disch:=first|assumption|(push_cast<;>omega)|omega) only [go_sem];rw [show (decide (400<((dec (n / Nat.gcd n d)).length:Int))||decide (400<((dec (d / Nat.gcd n d)).length:Int)))=false by simp;omega];simp (disch:=first|assumption|(push_cast<;>omega)|omega) only [go_sem,hz,decide_not];exact .pure (by simp [zad,zT,zac])
noncomputable def zzG:List V→Option PR:=zH (fun p:Bool×Nat×Nat=>[.bool p.1,.str (dec p.2.1),.str (dec p.2.2)]) (fun p=>(dec p.2.1).length≤1000∧(dec p.2.2).length≤1000∧0<p.2.2) (fun p=>redR p.1 p.2.1 p.2.2)
theorem zgO:∀ args r,zzG args=some r→PCall Tryz.prog 96 args r:=zo fun p h=>zwL p.1 p.2.1 p.2.2 h.1 h.2.1 h.2.2
@[go_sem] theorem cReduce_eq(neg:Bool)(n d:Nat)(ln:(dec n).length≤1000)(ld:(dec d).length≤1000)(hd:0<d):zzG [.bool neg,.str (dec n),.str (dec d)]=some (redR neg n d):=
 zn (pat:=fun p:Bool×Nat×Nat=>[V.bool p.1,.str (dec p.2.1),.str (dec p.2.2)]) (fun x y h=>by obtain⟨x1,x2,x3⟩:=x;obtain⟨y1,y2,y3⟩:=y;simp at h;obtain⟨h1,h2,h3⟩:=h;rw [h1,zah h2,zah h3]) (neg,n,d) ⟨ln,ld,hd⟩
structure Two where
 p:Bool
 m:Nat
 d:Nat
 q:Bool
 n:Nat
 f:Nat
def Two.ok(x:Two):Prop:=(dec x.m).length≤400∧(dec x.d).length≤400∧0<x.d∧(dec x.n).length≤400∧(dec x.f).length≤400∧0<x.f
def Two.a(x:Two):List V:=[.bool x.p,.str (dec x.m),.str (dec x.d)]
def Two.b(x:Two):List V:=[.bool x.q,.str (dec x.n),.str (dec x.f)]
def Two.vs(x:Two):List V:=[.agg x.a,.agg x.b]
theorem Two.ab_inj {x y:Two}(ha:x.a=y.a)(hb:x.b=y.b):x=y:=by obtain⟨p,m,d,q,n,f⟩:=x;obtain⟨p',m',d',q',n',f'⟩:=y;simp only [Two.a,Two.b,List.cons.injEq,V.bool.injEq,V.str.injEq,and_true]at ha hb;obtain⟨rfl,h1,h2⟩:=ha;obtain⟨rfl,h3,h4⟩:=hb;rw [zah h1,zah h2,zah h3,zah h4]
theorem Two.vs_inj {x y:Two}(h:x.vs=y.vs):x=y:=by simp only [Two.vs,List.cons.injEq,V.agg.injEq,and_true]at h;exact Two.ab_inj h.1 h.2
def opN(k:Nat)(x:Two):Bool×Nat×Nat:=match k with
 |0=>(!(x.p==x.q),x.m*x.n,x.d*x.f)
 |1=>((sumS x.p (x.m*x.f) x.q (x.n*x.d)).1,(sumS x.p (x.m*x.f) x.q (x.n*x.d)).2,x.d*x.f)
 |_=>(!(x.p==x.q),x.m*x.f,x.d*x.n)
def opR(k:Nat)(x:Two):PR:=redR (opN k x).1 (opN k x).2.1 (opN k x).2.2
theorem zcM(neg:Bool)(n d:Nat):redR neg n d=.panic longV∨∃ s a b,redR neg n d=.ret (.agg [.bool s,.str a,.str b]):=by
 unfold redR;split
 ·exact .inl rfl
 ·exact .inr ⟨_,_,_,rfl⟩
set_option maxHeartbeats 4000000 in
set_option maxRecDepth 100000 in
theorem opMul_ok(x:Two)(hx:x.ok)(hz:True):PCall Tryz.prog 95 x.vs (opR 0 x):=by
 have hΓ:=zf zhH (zf zek (zf zge (zf zgO zh)));obtain⟨p,m,d,q,n,f⟩:=x;obtain⟨lm,ld,d0,ln,lf,f0⟩:=hx;simp only at lm ld d0 ln lf f0 hz;simp only [Two.vs,Two.a,Two.b,opR,opN];have l1:=zC lm lf;have l2:=zC ln ld;have l3:=zC ld lf;have l4:=zC lm ln;have l5:=zC ld ln;have h0:=Nat.mul_pos d0 f0;have l6:=zeY (p:=p) (q:=q) l1 l2;refine PCall.walk (rs:=[.cell 4 87]) [0,1,2,3,4] [] mixed (hΓ) (zg) call95 Tryz.func95 rfl Tryz.ntmps95 rfl (by kernel_rfl) (by simp) (by simp [push_cast]) ?_;rcases zcM (!(p==q)) (m*n) (d*f)with hr|⟨s',a',b',hr⟩
 ·simp (disch:=first|assumption|(push_cast<;>omega)|omega) only [go_sem,hr];exact⟨by kernel_rfl,by kernel_rfl,.pure (.ifc (.agg (by simp)))⟩
 ·simp (disch:=first|assumption|(push_cast<;>omega)|omega) only [go_sem,hr];refine AXk.intro (by kernel_rfl) ?_;simp (disch:=first|assumption|(push_cast<;>omega)|omega) only [go_sem,hr];exact .pure (by simp [zad,zT,zac])
set_option maxHeartbeats 4000000 in
set_option maxRecDepth 100000 in
theorem opAdd_ok(x:Two)(hx:x.ok)(hz:True):PCall Tryz.prog 98 x.vs (opR 1 x):=by
 have hΓ:=zf zhH (zf zek (zf zge (zf zgO zh)));obtain⟨p,m,d,q,n,f⟩:=x;obtain⟨lm,ld,d0,ln,lf,f0⟩:=hx;simp only at lm ld d0 ln lf f0 hz;simp only [Two.vs,Two.a,Two.b,opR,opN];have l1:=zC lm lf;have l2:=zC ln ld;have l3:=zC ld lf;have l4:=zC lm ln;have l5:=zC ld ln;have h0:=Nat.mul_pos d0 f0;have l6:=zeY (p:=p) (q:=q) l1 l2;refine PCall.walk (rs:=[.cell 4 87]) [0,1,2,3,4,5,6] [] mixed (hΓ) (zg) call98 Tryz.func98 rfl Tryz.ntmps98 rfl (by kernel_rfl) (by simp) (by simp [push_cast]) ?_;rcases zcM (sumS p (m*f) q (n*d)).1 (sumS p (m*f) q (n*d)).2 (d*f)with hr|⟨s',a',b',hr⟩
 ·simp (disch:=first|assumption|(push_cast<;>omega)|omega) only [go_sem,hr];refine AXk.intro (by kernel_rfl) ?_;simp (disch:=first|assumption|(push_cast<;>omega)|omega) only [go_sem,hr];exact .pure (.ifc (.agg (by simp)))
 ·simp (disch:=first|assumption|(push_cast<;>omega)|omega) only [go_sem,hr];refine AXk.intro (by kernel_rfl) ?_;simp (disch:=first|assumption|(push_cast<;>omega)|omega) only [go_sem,hr];exact .pure (by simp [zad,zT,zac])
set_option maxHeartbeats 4000000 in
set_option maxRecDepth 100000 in
theorem opDiv_ok(x:Two)(hx:x.ok)(hz:0<x.n):PCall Tryz.prog 99 x.vs (opR 2 x):=by
 have hΓ:=zf zhH (zf zek (zf zge (zf zgO zh)));obtain⟨p,m,d,q,n,f⟩:=x;obtain⟨lm,ld,d0,ln,lf,f0⟩:=hx;simp only at lm ld d0 ln lf f0 hz;simp only [Two.vs,Two.a,Two.b,opR,opN];have l1:=zC lm lf;have l2:=zC ln ld;have l3:=zC ld lf;have l4:=zC lm ln;have l5:=zC ld ln;have h0:=Nat.mul_pos d0 f0;have l6:=zeY (p:=p) (q:=q) l1 l2;refine PCall.walk (rs:=[.cell 4 87]) [0,1,2,3,4] [] mixed (hΓ) (zg) call99 Tryz.func99 rfl Tryz.ntmps99 rfl (by kernel_rfl) (by simp) (by simp [push_cast]) ?_;have l7:=Nat.mul_pos d0 hz;rcases zcM (!(p==q)) (m*f) (d*n)with hr|⟨s',a',b',hr⟩
 ·simp (disch:=first|assumption|(push_cast<;>omega)|omega) only [go_sem,hr];exact⟨by kernel_rfl,by kernel_rfl,.pure (.ifc (.agg (by simp)))⟩
 ·simp (disch:=first|assumption|(push_cast<;>omega)|omega) only [go_sem,hr];refine AXk.intro (by kernel_rfl) ?_;simp (disch:=first|assumption|(push_cast<;>omega)|omega) only [go_sem,hr];exact .pure (by simp [zad,zT,zac])
noncomputable def cOpMul:List V→Option PR:=zH Two.vs (fun x=>x.ok∧True) (opR 0)
theorem zzY:∀ args r,cOpMul args=some r→PCall Tryz.prog 95 args r:=zo fun x h=>opMul_ok x h.1 h.2
theorem zzZ(x:Two)(hx:x.ok)(hz:True):cOpMul [.agg x.a,.agg x.b]=some (opR 0 x):=zn (pat:=Two.vs) (fun _ _ h=>Two.vs_inj h) x ⟨hx,hz⟩
set_option maxHeartbeats 4000000 in
set_option maxRecDepth 100000 in
theorem zsM(x:Two)(hx:x.ok)(hz:True):PCall Tryz.prog 126 [.fp [.fn 95 []],.fp x.a,.fp x.b] (opR 0 x):=by
 have hΓ:=zf zzY zh;have hc:=zzZ x hx hz;obtain⟨p,m,d,q,n,f⟩:=x;simp only [Two.a,Two.b]at hc ⊢;refine PCall.walk (rs:=[.cell 3 87]) [0,1,2,3] [] mixed (hΓ) (zg) zqc Tryz.func126 rfl Tryz.ntmps126 rfl (by kernel_rfl) (by simp) (by simp [push_cast]) ?_;rcases zcM (opN 0 ⟨p,m,d,q,n,f⟩).1 (opN 0 ⟨p,m,d,q,n,f⟩).2.1 (opN 0 ⟨p,m,d,q,n,f⟩).2.2 with hr|⟨s',a',b',hr⟩
 ·have hr':opR 0 ⟨p,m,d,q,n,f⟩=_:=hr;rw [hr']at hc ⊢;simp (disch:=first|assumption|(push_cast<;>omega)|omega) only [go_sem,hc];exact .pure (.ifc (.agg (by simp)))
 ·have hr':opR 0 ⟨p,m,d,q,n,f⟩=_:=hr;rw [hr']at hc ⊢;simp (disch:=first|assumption|(push_cast<;>omega)|omega) only [go_sem,hc];exact .pure (by simp [zad,zT,zac])
noncomputable def cOpAdd:List V→Option PR:=zH Two.vs (fun x=>x.ok∧True) (opR 1)
theorem zz2:∀ args r,cOpAdd args=some r→PCall Tryz.prog 98 args r:=zo fun x h=>opAdd_ok x h.1 h.2
theorem zz3(x:Two)(hx:x.ok)(hz:True):cOpAdd [.agg x.a,.agg x.b]=some (opR 1 x):=zn (pat:=Two.vs) (fun _ _ h=>Two.vs_inj h) x ⟨hx,hz⟩
set_option maxHeartbeats 4000000 in
set_option maxRecDepth 100000 in
theorem zsO(x:Two)(hx:x.ok)(hz:True):PCall Tryz.prog 126 [.fp [.fn 98 []],.fp x.a,.fp x.b] (opR 1 x):=by
 have hΓ:=zf zz2 zh;have hc:=zz3 x hx hz;obtain⟨p,m,d,q,n,f⟩:=x;simp only [Two.a,Two.b]at hc ⊢;refine PCall.walk (rs:=[.cell 3 87]) [0,1,2,3] [] mixed (hΓ) (zg) zqc Tryz.func126 rfl Tryz.ntmps126 rfl (by kernel_rfl) (by simp) (by simp [push_cast]) ?_;rcases zcM (opN 1 ⟨p,m,d,q,n,f⟩).1 (opN 1 ⟨p,m,d,q,n,f⟩).2.1 (opN 1 ⟨p,m,d,q,n,f⟩).2.2 with hr|⟨s',a',b',hr⟩
 ·have hr':opR 1 ⟨p,m,d,q,n,f⟩=_:=hr;rw [hr']at hc ⊢;simp (disch:=first|assumption|(push_cast<;>omega)|omega) only [go_sem,hc];exact .pure (.ifc (.agg (by simp)))
 ·have hr':opR 1 ⟨p,m,d,q,n,f⟩=_:=hr;rw [hr']at hc ⊢;simp (disch:=first|assumption|(push_cast<;>omega)|omega) only [go_sem,hc];exact .pure (by simp [zad,zT,zac])
noncomputable def cOpDiv:List V→Option PR:=zH Two.vs (fun x=>x.ok∧0<x.n) (opR 2)
theorem zz0:∀ args r,cOpDiv args=some r→PCall Tryz.prog 99 args r:=zo fun x h=>opDiv_ok x h.1 h.2
theorem zz1(x:Two)(hx:x.ok)(hz:0<x.n):cOpDiv [.agg x.a,.agg x.b]=some (opR 2 x):=zn (pat:=Two.vs) (fun _ _ h=>Two.vs_inj h) x ⟨hx,hz⟩
set_option maxHeartbeats 4000000 in
set_option maxRecDepth 100000 in
theorem zsN(x:Two)(hx:x.ok)(hz:0<x.n):PCall Tryz.prog 126 [.fp [.fn 99 []],.fp x.a,.fp x.b] (opR 2 x):=by
 have hΓ:=zf zz0 zh;have hc:=zz1 x hx hz;obtain⟨p,m,d,q,n,f⟩:=x;simp only [Two.a,Two.b]at hc ⊢;refine PCall.walk (rs:=[.cell 3 87]) [0,1,2,3] [] mixed (hΓ) (zg) zqc Tryz.func126 rfl Tryz.ntmps126 rfl (by kernel_rfl) (by simp) (by simp [push_cast]) ?_;rcases zcM (opN 2 ⟨p,m,d,q,n,f⟩).1 (opN 2 ⟨p,m,d,q,n,f⟩).2.1 (opN 2 ⟨p,m,d,q,n,f⟩).2.2 with hr|⟨s',a',b',hr⟩
 ·have hr':opR 2 ⟨p,m,d,q,n,f⟩=_:=hr;rw [hr']at hc ⊢;simp (disch:=first|assumption|(push_cast<;>omega)|omega) only [go_sem,hc];exact .pure (.ifc (.agg (by simp)))
 ·have hr':opR 2 ⟨p,m,d,q,n,f⟩=_:=hr;rw [hr']at hc ⊢;simp (disch:=first|assumption|(push_cast<;>omega)|omega) only [go_sem,hc];exact .pure (by simp [zad,zT,zac])
theorem zxm(neg:Bool)(n d:Nat)(hd:0<d):numT (neg&&decide (n≠0)) (n / Nat.gcd n d) (d / Nat.gcd n d)=ratT neg (n / Nat.gcd n d) (d / Nat.gcd n d):=by
 have hg:0<Nat.gcd n d:=Nat.gcd_pos_of_pos_right _ hd;have h0:n / Nat.gcd n d=0↔n=0:=by
  constructor
  ·intro h;rcases Nat.eq_zero_or_pos n with h1|h1
   ·exact h1
   ·have h2:=Nat.le_of_dvd h1 (Nat.gcd_dvd_left n d);have h3:=Nat.div_pos h2 hg;omega
  ·intro h;rw [h];simp
 unfold numT ratT;by_cases h1:n=0
 ·simp [h1]
 ·have h2:¬n / Nat.gcd n d=0:=fun h=>h1 (h0.1 h);cases neg<;>simp [h1,h2]
theorem zxk {x:Two}(hx:x.ok):0<(opN 0 x).2.2∧0<(opN 1 x).2.2:=⟨Nat.mul_pos hx.2.2.1 hx.2.2.2.2.2,Nat.mul_pos hx.2.2.1 hx.2.2.2.2.2⟩
theorem zgl {caps:List V}{neg:Bool}{n d:Nat}(hd:0<d)(h:PCall Tryz.prog 126 caps (redR neg n d)):PCall Tryz.prog 125 [.fn 126 caps] (.ret (mkV neg n d)):=by
 unfold redR at h;unfold mkV;by_cases hl:zd5 (n / Nat.gcd n d)=true∨zd5 (d / Nat.gcd n d)=true
 ·rw [if_pos hl]at h ⊢;exact zvP h
 ·rw [if_neg hl]at h ⊢;have hl':¬(400<(dec (n / Nat.gcd n d)).length∨400<(dec (d / Nat.gcd n d)).length):=by simpa [zd5] using hl
  rw [←zxm neg n d hd];exact zvO h (ztn _ _ _ (by omega) (by omega))
noncomputable def cWrMul:List V→Option PR:=zH (fun x:Two=>[.fn 126 [.fp [.fn 95 []],.fp x.a,.fp x.b]]) (fun x=>x.ok∧True) (fun x=>.ret (mkV (opN 0 x).1 (opN 0 x).2.1 (opN 0 x).2.2))
theorem zzt:∀ args r,cWrMul args=some r→PCall Tryz.prog 125 args r:=zo fun x h=>zgl ((zxk h.1).1) (zsM x h.1 h.2)
theorem zzu(x:Two)(hx:x.ok)(hz:True):cWrMul [.fn 126 [.fp [.fn 95 []],.fp x.a,.fp x.b]]=some (.ret (mkV (opN 0 x).1 (opN 0 x).2.1 (opN 0 x).2.2)):=
 zn (pat:=fun x:Two=>[V.fn 126 [.fp [.fn 95 []],.fp x.a,.fp x.b]]) (fun _ _ h=>by simp only [List.cons.injEq,V.fn.injEq,V.fp.injEq,true_and,and_true]at h;exact Two.ab_inj h.1 h.2) x ⟨hx,hz⟩
set_option maxHeartbeats 8000000 in
set_option maxRecDepth 100000 in
theorem zl7(a b:List UInt8)(la:a.length≤1000000000)(lb:b.length≤1000000000)(hz:True):PCall Tryz.prog 94 [.str a,.str b,.fn 95 []] (.ret (zK a b)):=by
 have hΓ:=zf zeP (zf zzt zh);refine PCall.walk (rs:=[.tmp 6,.tmp 7]) [0,1,2,5,6,7,8,9,10,11,27] [] mixed (hΓ) (zg) zzq Tryz.func94 rfl Tryz.ntmps94 rfl (by kernel_rfl) (by simp) (by simp [push_cast]) ?_;cases ha:ratP a with
 |none=>
  rw [zjX b ha];cases hb:ratP b with
  |none=>simp (disch:=first|assumption|(push_cast<;>omega)|omega) only [go_sem,ha,hb,errV]
  |some y=>
   obtain⟨q,n,f⟩:=y;simp (disch:=first|assumption|(push_cast<;>omega)|omega) only [go_sem,ha,hb,errV]
 |some x=>
  obtain⟨p,m,d⟩:=x;cases hb:ratP b with
  |none=>
   rw [zjW a hb];simp (disch:=first|assumption|(push_cast<;>omega)|omega) only [go_sem,ha,hb,errV]
  |some y=>
   obtain⟨q,n,f⟩:=y;rw [zih ha hb];obtain⟨lm,ld,d0⟩:=zbg ha;obtain⟨ln,lf,f0⟩:=zbg hb;have hc:=zzu ⟨p,m,d,q,n,f⟩ ⟨lm,ld,d0,ln,lf,f0⟩ (trivial);simp only [Two.a,Two.b,opN]at hc;obtain⟨s,e,hse⟩:=zd1 (!(p==q)) (m*n) (d*f);rw [hse]at hc ⊢;simp (disch:=first|assumption|(push_cast<;>omega)|omega) only [go_sem,ha,hb,hc]
noncomputable def cWrAdd:List V→Option PR:=zH (fun x:Two=>[.fn 126 [.fp [.fn 98 []],.fp x.a,.fp x.b]]) (fun x=>x.ok∧True) (fun x=>.ret (mkV (opN 1 x).1 (opN 1 x).2.1 (opN 1 x).2.2))
theorem zzx:∀ args r,cWrAdd args=some r→PCall Tryz.prog 125 args r:=zo fun x h=>zgl ((zxk h.1).2) (zsO x h.1 h.2)
theorem zzy(x:Two)(hx:x.ok)(hz:True):cWrAdd [.fn 126 [.fp [.fn 98 []],.fp x.a,.fp x.b]]=some (.ret (mkV (opN 1 x).1 (opN 1 x).2.1 (opN 1 x).2.2)):=
 zn (pat:=fun x:Two=>[V.fn 126 [.fp [.fn 98 []],.fp x.a,.fp x.b]]) (fun _ _ h=>by simp only [List.cons.injEq,V.fn.injEq,V.fp.injEq,true_and,and_true]at h;exact Two.ab_inj h.1 h.2) x ⟨hx,hz⟩
set_option maxHeartbeats 8000000 in
set_option maxRecDepth 100000 in
theorem zl9(a b:List UInt8)(la:a.length≤1000000000)(lb:b.length≤1000000000)(hz:True):PCall Tryz.prog 94 [.str a,.str b,.fn 98 []] (.ret (zM a b)):=by
 have hΓ:=zf zeP (zf zzx zh);refine PCall.walk (rs:=[.tmp 6,.tmp 7]) [0,1,2,5,6,7,8,9,10,11,27] [] mixed (hΓ) (zg) zzq Tryz.func94 rfl Tryz.ntmps94 rfl (by kernel_rfl) (by simp) (by simp [push_cast]) ?_;cases ha:ratP a with
 |none=>
  rw [zj1 b ha];cases hb:ratP b with
  |none=>simp (disch:=first|assumption|(push_cast<;>omega)|omega) only [go_sem,ha,hb,errV]
  |some y=>
   obtain⟨q,n,f⟩:=y;simp (disch:=first|assumption|(push_cast<;>omega)|omega) only [go_sem,ha,hb,errV]
 |some x=>
  obtain⟨p,m,d⟩:=x;cases hb:ratP b with
  |none=>
   rw [zj0 a hb];simp (disch:=first|assumption|(push_cast<;>omega)|omega) only [go_sem,ha,hb,errV]
  |some y=>
   obtain⟨q,n,f⟩:=y;rw [zez ha hb];obtain⟨lm,ld,d0⟩:=zbg ha;obtain⟨ln,lf,f0⟩:=zbg hb;have hc:=zzy ⟨p,m,d,q,n,f⟩ ⟨lm,ld,d0,ln,lf,f0⟩ (trivial);simp only [Two.a,Two.b,opN]at hc;obtain⟨s,e,hse⟩:=zd1 (sumS p (m*f) q (n*d)).1 (sumS p (m*f) q (n*d)).2 (d*f);rw [hse]at hc ⊢;simp (disch:=first|assumption|(push_cast<;>omega)|omega) only [go_sem,ha,hb,hc]
noncomputable def cWrDiv:List V→Option PR:=zH (fun x:Two=>[.fn 126 [.fp [.fn 99 []],.fp x.a,.fp x.b]]) (fun x=>x.ok∧0<x.n) (fun x=>.ret (mkV (opN 2 x).1 (opN 2 x).2.1 (opN 2 x).2.2))
theorem zzv:∀ args r,cWrDiv args=some r→PCall Tryz.prog 125 args r:=zo fun x h=>zgl (Nat.mul_pos h.1.2.2.1 h.2) (zsN x h.1 h.2)
theorem zzw(x:Two)(hx:x.ok)(hz:0<x.n):cWrDiv [.fn 126 [.fp [.fn 99 []],.fp x.a,.fp x.b]]=some (.ret (mkV (opN 2 x).1 (opN 2 x).2.1 (opN 2 x).2.2)):=
 zn (pat:=fun x:Two=>[V.fn 126 [.fp [.fn 99 []],.fp x.a,.fp x.b]]) (fun _ _ h=>by simp only [List.cons.injEq,V.fn.injEq,V.fp.injEq,true_and,and_true]at h;exact Two.ab_inj h.1 h.2) x ⟨hx,hz⟩
set_option maxHeartbeats 8000000 in
set_option maxRecDepth 100000 in
theorem zl8(a b:List UInt8)(la:a.length≤1000000000)(lb:b.length≤1000000000)(hz:∀ q n f,(ratP a).isSome=true→ratP b=some (q,n,f)→0<n):PCall Tryz.prog 94 [.str a,.str b,.fn 99 []] (.ret (zaH a b)):=by
 have hΓ:=zf zeP (zf zzv zh);refine PCall.walk (rs:=[.tmp 6,.tmp 7]) [0,1,2,5,6,7,8,9,10,11,27] [] mixed (hΓ) (zg) zzq Tryz.func94 rfl Tryz.ntmps94 rfl (by kernel_rfl) (by simp) (by simp [push_cast]) ?_;cases ha:ratP a with
 |none=>
  rw [zjZ b ha];cases hb:ratP b with
  |none=>simp (disch:=first|assumption|(push_cast<;>omega)|omega) only [go_sem,ha,hb,errV]
  |some y=>
   obtain⟨q,n,f⟩:=y;simp (disch:=first|assumption|(push_cast<;>omega)|omega) only [go_sem,ha,hb,errV]
 |some x=>
  obtain⟨p,m,d⟩:=x;cases hb:ratP b with
  |none=>
   rw [zjY a hb];simp (disch:=first|assumption|(push_cast<;>omega)|omega) only [go_sem,ha,hb,errV]
  |some y=>
   obtain⟨q,n,f⟩:=y;rw [zfQ ha hb];obtain⟨lm,ld,d0⟩:=zbg ha;obtain⟨ln,lf,f0⟩:=zbg hb;have hc:=zzw ⟨p,m,d,q,n,f⟩ ⟨lm,ld,d0,ln,lf,f0⟩ (hz q n f (by rw [ha,Option.isSome_some]) hb);simp only [Two.a,Two.b,opN]at hc;rw [if_neg (by have:=hz q n f (by rw [ha,Option.isSome_some]) hb;omega)];obtain⟨s,e,hse⟩:=zd1 (!(p==q)) (m*f) (d*n);rw [hse]at hc ⊢;simp (disch:=first|assumption|(push_cast<;>omega)|omega) only [go_sem,ha,hb,hc]
end Go.Proofs

namespace Go.Proofs
open Go.Ab Go.Pl
theorem zpd {a:List UInt8}(h1:(zI a).1=false)(h2:(zI a).2.2.2=false):(zI a).2.1=a:=by
 unfold zI at*;simp only at*;split at h1
 ·split at h2
  ·cases h2
  ·rename_i e1 _ e2;rw [e1]at e2;cases e2
 ·rename_i e1;simp only [e1];simp only at h1;rw [h1];rfl
theorem zmX {b:List UInt8}{q:Bool}{f:Nat}(h:ratP b=some (q,0,f)):b=[48]:=by
 unfold ratP at h;split at h
 case isFalse=>cases h
 case isTrue hk=>
  simp only [Option.some.injEq,Prod.mk.injEq]at h
  obtain⟨_,h1,_⟩:=h
  simp only [zca,Bool.and_eq_true,decide_eq_true_eq]at hk
  obtain⟨⟨⟨⟨k1,k2⟩,k3⟩,k4⟩,k5⟩:=hk
  have e1:=zaA (shortN_iff.1 k1).1
  have e2:=zaA (shortN_iff.1 k2).1
  rw [h1]at e1 k5
  rw [Nat.gcd_zero_left]at k5
  rw [k5]at e2
  have e3:(zI b).2.1=[48]:=e1.symm
  have e4:(zI b).2.2.1=[49]:=e2.symm
  rw [e3]at k3
  rw [e4]at k4
  have n1:(zI b).1=false:=by cases h:(zI b).1<;>simp_all
  have n2:(zI b).2.2.2=false:=by cases h:(zI b).2.2.2<;>simp_all
  rw [←zpd n1 n2];exact e3
theorem ratP_48:ratP [48]=some (false,0,1):=by rfl
noncomputable def cCpMul:List V→Option PR:=zH (fun p:List UInt8×List UInt8=>[.str p.1,.str p.2,.fn 95 []]) (fun p=>p.1.length≤1000000000∧p.2.length≤1000000000) (fun p=>.ret (zK p.1 p.2))
theorem zAt:∀ args r,cCpMul args=some r→PCall Tryz.prog 94 args r:=zo fun p h=>zl7 p.1 p.2 h.1 h.2 trivial
theorem zAu(a b:List UInt8)(la:a.length≤1000000000)(lb:b.length≤1000000000):cCpMul [.str a,.str b,.fn 95 []]=some (.ret (zK a b)):=
 zn (pat:=fun p:List UInt8×List UInt8=>[V.str p.1,.str p.2,.fn 95 []]) (fun x y h=>by simp at h;exact Prod.ext h.1 h.2) (a,b) ⟨la,lb⟩
set_option maxRecDepth 100000 in
theorem zwM(a b:List UInt8)(la:a.length≤1000000000)(lb:b.length≤1000000000):PCall Tryz.prog 63 [.str a,.str b] (.ret (zK a b)):=by
 have hΓ:=zf zAt zh;have hc:=zAu a b la lb;obtain⟨s,e,hse⟩:=zfm a b;rw [hse]at hc ⊢;refine PCall.walk (rs:=[.tmp 4,.tmp 5]) [0,1,4,5] [] mixed (hΓ) (zg) call63 Tryz.func63 rfl Tryz.ntmps63 rfl (by kernel_rfl) (by simp) (by simp [push_cast]) ?_;simp (disch:=first|assumption|(push_cast<;>omega)|omega) only [go_sem,hc]
noncomputable def cCpAdd:List V→Option PR:=zH (fun p:List UInt8×List UInt8=>[.str p.1,.str p.2,.fn 98 []]) (fun p=>p.1.length≤1000000000∧p.2.length≤1000000000) (fun p=>.ret (zM p.1 p.2))
theorem zAx:∀ args r,cCpAdd args=some r→PCall Tryz.prog 94 args r:=zo fun p h=>zl9 p.1 p.2 h.1 h.2 trivial
theorem zAy(a b:List UInt8)(la:a.length≤1000000000)(lb:b.length≤1000000000):cCpAdd [.str a,.str b,.fn 98 []]=some (.ret (zM a b)):=
 zn (pat:=fun p:List UInt8×List UInt8=>[V.str p.1,.str p.2,.fn 98 []]) (fun x y h=>by simp at h;exact Prod.ext h.1 h.2) (a,b) ⟨la,lb⟩
set_option maxRecDepth 100000 in
theorem zwP(a b:List UInt8)(la:a.length≤1000000000)(lb:b.length≤1000000000):PCall Tryz.prog 65 [.str a,.str b] (.ret (zM a b)):=by
 have hΓ:=zf zAx zh;have hc:=zAy a b la lb;obtain⟨s,e,hse⟩:=zfo a b;rw [hse]at hc ⊢;refine PCall.walk (rs:=[.tmp 4,.tmp 5]) [0,1,4,5] [] mixed (hΓ) (zg) call65 Tryz.func65 rfl Tryz.ntmps65 rfl (by kernel_rfl) (by simp) (by simp [push_cast]) ?_;simp (disch:=first|assumption|(push_cast<;>omega)|omega) only [go_sem,hc]
noncomputable def cCpDiv:List V→Option PR:=zH (fun p:List UInt8×List UInt8=>[.str p.1,.str p.2,.fn 99 []]) (fun p=>p.1.length≤1000000000∧p.2.length≤1000000000∧∀ q n f,(ratP p.1).isSome=true→ratP p.2=some (q,n,f)→0<n) (fun p=>.ret (zaH p.1 p.2))
theorem zAv:∀ args r,cCpDiv args=some r→PCall Tryz.prog 94 args r:=zo fun p h=>zl8 p.1 p.2 h.1 h.2.1 h.2.2
theorem zAw(a b:List UInt8)(la:a.length≤1000000000)(lb:b.length≤1000000000)(hz:∀ q n f,(ratP a).isSome=true→ratP b=some (q,n,f)→0<n):cCpDiv [.str a,.str b,.fn 99 []]=some (.ret (zaH a b)):=
 zn (pat:=fun p:List UInt8×List UInt8=>[V.str p.1,.str p.2,.fn 99 []]) (fun x y h=>by simp at h;exact Prod.ext h.1 h.2) (a,b) ⟨la,lb,hz⟩
set_option maxRecDepth 100000 in
theorem zwN(a b:List UInt8)(la:a.length≤1000000000)(lb:b.length≤1000000000):PCall Tryz.prog 66 [.str a,.str b] (.ret (zaH a b)):=by
 have hΓ:=zf zg5 (zf zAv zh);refine PCall.walk (rs:=[.tmp 4,.tmp 5]) [0,1,4,5,11] [] mixed (hΓ) (zg) call66 Tryz.func66 rfl Tryz.ntmps66 rfl (by kernel_rfl) (by simp) (by simp [push_cast]) ?_;obtain⟨s,e,hse⟩:=zfn a b;by_cases h0:(ratP a).isSome=true∧b=[48]
 ·obtain⟨h1,h2⟩:=h0;subst h2;obtain⟨⟨p,m,d⟩,hp⟩:=Option.isSome_iff_exists.1 h1;rw [zfQ hp ratP_48,if_pos rfl];simp (disch:=first|assumption|(push_cast<;>omega)|omega) only [go_sem,hp,Option.isSome_some,errV]
 ·have hc:=zAw a b la lb (fun q n f h1 h2=>by
   rcases Nat.eq_zero_or_pos n with h3|h3
   ·subst h3;exact absurd ⟨h1,zmX h2⟩ h0
   ·exact h3)
  have hb:((ratP a).isSome&&decide (b=[48]))=false:=by
   rw [Bool.and_eq_false_iff];by_cases h1:(ratP a).isSome=true
   ·exact .inr (decide_eq_false fun h2=>h0 ⟨h1,h2⟩)
   ·exact .inl (by simpa using h1)
  rw [hse]at hc ⊢
  simp (disch:=first|assumption|(push_cast<;>omega)|omega) only [go_sem,hc]
  rw [hb]
  simp (disch:=first|assumption|(push_cast<;>omega)|omega) only [go_sem,hc]
noncomputable def zqf:List V→Option PR:=zH (fun p:List UInt8×List UInt8=>[.str p.1,.str p.2]) (fun p=>p.1.length≤1000000000∧p.2.length≤1000000000) (fun p=>.ret (zK p.1 p.2))
theorem zu0:∀ args r,zqf args=some r→PCall Tryz.prog 63 args r:=zo fun p h=>zwM p.1 p.2 h.1 h.2
theorem zu1(a b:List UInt8)(la:a.length≤1000000000)(lb:b.length≤1000000000):zqf [.str a,.str b]=some (.ret (zK a b)):=
 zn (pat:=fun p:List UInt8×List UInt8=>[V.str p.1,.str p.2]) (fun x y h=>by simp at h;exact Prod.ext h.1 h.2) (a,b) ⟨la,lb⟩
noncomputable def zqi:List V→Option PR:=zH (fun p:List UInt8×List UInt8=>[.str p.1,.str p.2]) (fun p=>p.1.length≤1000000000∧p.2.length≤1000000000) (fun p=>.ret (zM p.1 p.2))
theorem zu7:∀ args r,zqi args=some r→PCall Tryz.prog 65 args r:=zo fun p h=>zwP p.1 p.2 h.1 h.2
theorem zu8(a b:List UInt8)(la:a.length≤1000000000)(lb:b.length≤1000000000):zqi [.str a,.str b]=some (.ret (zM a b)):=
 zn (pat:=fun p:List UInt8×List UInt8=>[V.str p.1,.str p.2]) (fun x y h=>by simp at h;exact Prod.ext h.1 h.2) (a,b) ⟨la,lb⟩
noncomputable def zqg:List V→Option PR:=zH (fun p:List UInt8×List UInt8=>[.str p.1,.str p.2]) (fun p=>p.1.length≤1000000000∧p.2.length≤1000000000) (fun p=>.ret (zaH p.1 p.2))
theorem zu3:∀ args r,zqg args=some r→PCall Tryz.prog 66 args r:=zo fun p h=>zwN p.1 p.2 h.1 h.2
theorem zu4(a b:List UInt8)(la:a.length≤1000000000)(lb:b.length≤1000000000):zqg [.str a,.str b]=some (.ret (zaH a b)):=
 zn (pat:=fun p:List UInt8×List UInt8=>[V.str p.1,.str p.2]) (fun x y h=>by simp at h;exact Prod.ext h.1 h.2) (a,b) ⟨la,lb⟩
end Go.Proofs

namespace Go.Ab
def FzB(H:Hp)(F:Nat→Prop)(n:Nat)(x' x:Blk):Prop:=
 RnB id (fun b=>¬F b∧b<n) x' x∨∃ cs cs',x=.cells cs∧x'=.cells cs'∧cs'.length=cs.length∧∀(i:Nat) (u v:V),cs[i]? =some u→cs'[i]? =some v→Rn id (fun b=>¬F b∧b<n) v u∨FrzF H F u v
structure Fz2(nx:Nat)(F:Nat→Prop)(s s':St):Prop where
 env:∀ t v',s'.env.lookup t=some v'→v'=.any∨∃ v,s.env.lookup t=some v∧(Rn id (fun b=>¬F b∧b<s'.h.next) v' v∨FrzF s.h F v v')
 heap:∀ b x',s'.h.get b=some x'→b<s'.h.next∧¬F b∧∃ x,s.h.get b=some x∧FzB s.h F s'.h.next x' x
 live:∀ b,F b→nx≤b∧∃ x,s.h.get b=some x
 elder:∀ b,b<nx→s'.h.get b=s.h.get b
 next:nx≤s'.h.next
open Classical in
theorem Rel.freeze2 {C:Cfg}{base:Nat}{D:Nat→Prop}{g0:G}{H0:Hp}{w0:World}{g:G}{F:Nat→Prop}{s s':St}{a:Act}{w:World}(he:Entry C base D g0 H0 w0)(r:Rel C base D g0 H0 w0 g s a w)(hW:C.Wm=[])(h:Fz2 C.nx F s s'):
 ∃ g',Rel C base D g0 H0 w0 g' s' a w:=by
 let cellsAt:Nat→Option (Array Value):=fun c=>match w.heap[c]? with|some (.cells arr _ _)=>some arr|_=>none
 let g':G:=⟨fun b=>if ¬F b∧b<s'.h.next then g.mu b else none,fun c=>(g.phi c).or (if ∃ b T,F b∧g.mu b=some T∧T.c=c then cellsAt c else none)⟩
 have hp:∀ c a,g.phi c=some a→g'.phi c=some a:=fun c a e=>by show (g.phi c).or _=_;rw [e];rfl
 have hm:∀ b,(¬F b∧b<s'.h.next)→g'.mu b=g.mu (id b):=fun b hb=>if_pos hb
 have hm':∀ b T,g'.mu b=some T→(¬F b∧b<s'.h.next)∧g.mu b=some T:=by
  intro b T e;simp only [g']at e;split at e
  ·rename_i hb;exact⟨hb,e⟩
  ·cases e
 have pnx:=he.nx
 have ha:∀ b T arr t,F b→g.mu b=some T→w.heap[T.c]? =some (.cells arr t (0,0))→g'.phi T.c=some arr:=by
  intro b T arr t hF hmu hh;show (g.phi T.c).or _=_;obtain⟨x,hx⟩:=(h.live b hF).2;obtain⟨T1,o,e1,e2,_⟩:=r.post.inv.cont b x (he.inD b) hx;obtain rfl:T1=T:=by rw [hmu]at e1;exact(Option.some.inj e1).symm
  rw [e2,if_pos ⟨b,T1,hF,hmu,rfl⟩];show cellsAt T1.c=some arr;simp only [cellsAt,hh]
 have hphi:∀ c a,g'.phi c=some a→g.phi c=some a∨((∃ b T,F b∧g.mu b=some T∧T.c=c)∧cellsAt c=some a):=by
  intro c a e;have e':(g.phi c).or (if ∃ b T,F b∧g.mu b=some T∧T.c=c then cellsAt c else none)=some a:=e;cases e1:g.phi c with
  |some a'=>rw [e1]at e';left;exact e'
  |none=>
   rw [e1]at e';simp only [Option.none_or]at e';split at e'
   ·rename_i hc;exact .inr ⟨hc,e'⟩
   ·cases e'
 refine⟨g',⟨⟨r.env.glob.mono hp,r.env.size,fun t v' e=>?_⟩,r.defers,?_⟩⟩
 ·rcases h.env t v' e with rfl|⟨v,ev,rn|fz⟩
  ·exact .any _
  ·exact(r.env.rel t v ev).rn hp hm rn
  ·exact fz.rel r.post.inv (fun b _=>he.inD b) hp ha (r.env.rel t v ev)
 ·have own:∀ b T,g.mu b=some T→C.nx≤b→w0.heap.size≤T.c:=by
   intro b T e hb
   rcases r.post.newmu b T e with e0|⟨_,hc|⟨b0,h0,_⟩⟩
   ·have:=(he.inv.dom b T e0).1;omega
   ·exact hc
   ·rw [hW]at h0;cases h0
  refine⟨?_,?_,?_,?_,r.post.frame,r.post.size,r.post.os,r.post.tape,r.post.output,?_,?_⟩
  ·refine⟨fun b T e=>?_,fun c a e=>hp c a (r.post.le.2 c a e)⟩
   have hb:=(he.inv.dom b T e).1
   have hnF:¬F b:=fun hF=>by have:=(h.live b hF).1;omega
   have:g'.mu b=g.mu b:=hm b ⟨hnF,by have:=h.next;omega⟩
   rw [this]
   exact r.post.le.1 b T e
  ·refine⟨fun c a e=>?_,fun b T e=>?_,fun b x e=>(h.heap b x e).1,fun b x _ e=>?_,fun b b' x x' T T' _ _ e e' m m' ec=>?_,r.post.inv.base⟩
   ·rcases hphi c a e with e|⟨_,e⟩
    ·exact r.post.inv.frz c a e
    ·simp only [cellsAt]at e
     split at e
     ·rename_i arr t fr hh;cases e;exact⟨t,fr,hh⟩
     ·cases e
   ·obtain⟨h1,h2⟩:=hm' b T e
    exact⟨h1.2,(r.post.inv.dom _ T h2).2⟩
   ·obtain⟨hb,hnF,y,hy,rn⟩:=h.heap b x e
    obtain⟨T,o,e1,e2,e3,e4⟩:=r.post.inv.cont _ y (he.inD _) hy
    refine⟨T,o,(hm b ⟨hnF,hb⟩).trans e1,?_,e3,?_⟩
    rotate_left
    ·rcases rn with rn|⟨cs,cs',rfl,rfl,hl,hc⟩
     ·exact e4.rn hp hm rn
     ·cases e4 with
      |cells hs hbd hpw=>
       refine .cells hs (by omega) fun i v hv=>?_
       have hlt:=(List.getElem?_eq_some_iff.1 hv).1
       obtain⟨u,hu,ru⟩:=hpw i _ (List.getElem?_eq_getElem (by omega))
       refine⟨u,hu,?_⟩
       rcases hc i _ v (List.getElem?_eq_getElem (by omega)) hv with k|k
       ·exact ru.rn hp hm k
       ·exact k.rel r.post.inv (fun b _=>he.inD b) hp ha ru
    cases e5:g'.phi T.c with
    |none=>rfl
    |some ar=>
     rcases hphi _ _ e5 with e6|⟨⟨b1,T1,hF1,hm1,hc1⟩,_⟩
     ·rw [e2]at e6;cases e6
     ·obtain⟨x1,hx1⟩:=(h.live b1 hF1).2
      have:=r.post.inv.inj b1 b x1 y T1 T (he.inD _) (he.inD _) hx1 hy hm1 e1 hc1
      subst this
      exact absurd hF1 hnF
   ·obtain⟨hb,hnF,y,hy,_⟩:=h.heap b x e
    obtain⟨hb',hnF',y',hy',_⟩:=h.heap b' x' e'
    exact r.post.inv.inj _ _ y y' T T' (he.inD _) (he.inD _) hy hy' (hm' b T m).2 (hm' b' T' m').2 ec
  ·intro b T e
   exact r.post.newmu b T (hm' b T e).2
  ·intro c a e
   rcases hphi c a e with e|⟨⟨b,T,hF,hmu,rfl⟩,_⟩
   ·exact r.post.newphi c a e
   ·exact .inr (own b T hmu (h.live b hF).1)
  ·intro b hb hn
   rw [h.elder b (by omega)]
   exact r.post.aframe b hb hn
  ·have:=h.next;omega
theorem AX.freeze2 {C:Cfg}{P:Program}{K:Out→St→Prop}{F:Nat→Prop}{c:Code}{s s':St}(hW:C.Wm=[])(hs:Fz2 C.nx F s s')(h:AX C P c s' K):AX C P c s K:=fun base D g0 H0 w0 _ a w he r=>
 let ⟨g',r'⟩:=r.freeze2 he hW hs
 h base D g0 H0 w0 g' a w he r'
def lFz(H:Hp)(F:Nat→Prop)(n:Nat):List V→List V→Prop
 |[],[]=>True
 |u::cs,v::cs'=>(Rn id (fun b=>¬F b∧b<n) v u∨FrzF H F u v)∧lFz H F n cs cs'
 |_,_=>False
theorem lFz_ok {H:Hp}{F:Nat→Prop}{n:Nat}:∀ {cs cs':List V},lFz H F n cs cs'→cs'.length=cs.length∧∀(i:Nat) (u v:V),cs[i]? =some u→cs'[i]? =some v→Rn id (fun b=>¬F b∧b<n) v u∨FrzF H F u v
 |[],[],_=>⟨rfl,fun i u v h=>by simp at h⟩
 |u::cs,v::cs',h=>by
  obtain⟨h1,h2⟩:=h;obtain⟨k1,k2⟩:=lFz_ok h2;refine⟨by simp [k1],fun i x y hx hy=>?_⟩;match i with
  |0=>cases hx;cases hy;exact h1
  |i+1=>exact k2 i x y (by simpa using hx) (by simpa using hy)
 |[],_::_,h=>h.elim
 |_::_,[],h=>h.elim
def fzC(H:Hp)(F:Nat→Prop)(n:Nat)(bs:List (Nat×Blk)):List (Nat×List V)→Prop
 |[]=>True
 |(b,cs')::r=>(b<n∧¬F b∧zsK (zaB bs b) (fun y=>match y with| .cells cs=>lFz H F n cs cs'|_=>False))∧fzC H F n bs r
def cellB(l:List (Nat×List V)):List (Nat×Blk):=l.map fun p=>(p.1,.cells p.2)
theorem fzC_ok {H:Hp}{F:Nat→Prop}{n:Nat}{bs:List (Nat×Blk)}:∀ {bs':List (Nat×List V)},fzC H F n bs bs'→∀ b x',(cellB bs').lookup b=some x'→b<n∧¬F b∧∃ x,zaB bs b=some x∧FzB H F n x' x
 |[],_,b,x',h=>by cases h
 |(k,u)::r,hs,b,x',h=>by
  rw [cellB,List.map_cons,List.lookup_cons]at h;by_cases hk:b=k
  ·subst hk;simp only [beq_self_eq_true,Option.some.injEq]at h;subst h;obtain⟨⟨h1,h0,h2⟩,_⟩:=hs;refine⟨h1,h0,?_⟩;cases e:zaB bs b with
   |none=>rw [e]at h2;exact h2.elim
   |some y=>
    rw [e]at h2;cases y with
    |cells cs=>obtain⟨k1,k2⟩:=lFz_ok (show lFz H F n cs u from h2);exact⟨_,rfl,.inr ⟨cs,u,rfl,rfl,k1,k2⟩⟩
    |_=>exact(show False from h2).elim
  ·have hb:(b==k)=false:=by simp [hk]
   simp only [hb]at h;exact fzC_ok hs.2 b x' h
theorem AXa.fz2 {C:Cfg}{P:Program}{K:Out→St→Prop}{st:List Fr}{y:Code}{env env':Env}{bs:List (Nat×Blk)}{n n':Nat}(fl:List Nat)(bs':List (Nat×List V))(hW:C.Wm=[])(h0:C.nx=0)(hl:(fl.all fun b=>(zaB bs b).isSome)=true)
 (he:fzE (· ∈fl) n' ⟨bs,n⟩ env env') (hh:fzC ⟨bs,n⟩ (· ∈fl) n' bs bs') (hx:AXa C P K st y env' ⟨cellB bs',n'⟩):AXa C P K st y env ⟨bs,n⟩:=by
 refine AX.freeze2 (F:=(· ∈fl)) hW ⟨zrE he,fun b x' e=>?_,fun b hb=>⟨by omega,?_⟩,fun b hb=>by omega,by rw [h0];exact Nat.zero_le _⟩ hx
 ·obtain⟨h1,h2,x,h3,h4⟩:=fzC_ok hh b x' e
  exact⟨h1,h2,x,by rw [zdg];exact h3,h4⟩
 ·have:=List.all_eq_true.1 hl b hb
  rw [Option.isSome_iff_exists]at this
  rw [zdg];exact this
end Go.Ab
