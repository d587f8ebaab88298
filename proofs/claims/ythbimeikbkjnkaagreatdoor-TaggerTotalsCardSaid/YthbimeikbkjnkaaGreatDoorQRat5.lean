/- rat: text, reduce, Mul, Add, Div. -/
import Derived.Test.YthbimeikbkjnkaaGreatDoorF3c
set_option linter.all false
namespace Go.Proofs
open Go.Ab Go.Pl
def numT(s:Bool)(n d:Nat):List UInt8:=(if s=true then [45]else [])++dec n++(if d=1 then []else 47::dec d)
set_option maxHeartbeats 4000000 in
set_option maxRecDepth 100000 in
theorem zr4(s:Bool)(n d:Nat)(hn:(dec n).length≤400)(hd:(dec d).length≤400):PCall Tryz.prog 178 [.agg [.bool s,.str (dec n),.str (dec d)]] (.ret (.str (numT s n d))):=by
 refine PCall.walk (rs:=[.tmp 2]) [0,1,2,3,7,12] [] mixed (zh) (zg) call178 Tryz.func178 rfl Tryz.ntmps178 rfl (by kernel_rfl) (by simp) (by simp [push_cast]) ?_;have hz:decide (dec d=[49])=decide (d=1):=by have:dec d=[49]↔d=1:=⟨fun h=>zS (h.trans (by rfl:([49]:List UInt8)=dec 1)),fun h=>by subst h;rfl⟩;simp only [this]
 cases s with
 |true=>
  simp (disch:=first|assumption|(push_cast<;>omega)|omega) only [go_sem];refine⟨by omega,?_⟩;rw [hz];refine AXc.introN (fun h1=>?_) (fun h1=>?_)
  ·simp (disch:=first|assumption|(push_cast<;>omega)|omega) only [go_sem,numT,h1];omega
  ·simp (disch:=first|assumption|(push_cast<;>omega)|omega) only [go_sem,numT,h1]
 |false=>
  simp (disch:=first|assumption|(push_cast<;>omega)|omega) only [go_sem];rw [hz];refine AXc.introN (fun h1=>?_) (fun h1=>?_)
  ·simp (disch:=first|assumption|(push_cast<;>omega)|omega) only [go_sem,numT,h1];omega
  ·simp (disch:=first|assumption|(push_cast<;>omega)|omega) only [go_sem,numT,h1]
def redR(neg:Bool)(n d:Nat):PR:=if zdn (n / Nat.gcd n d)=true∨zdn (d / Nat.gcd n d)=true then .panic longV else .ret (.agg [.bool (neg&&decide (n≠0)),.str (dec (n / Nat.gcd n d)),.str (dec (d / Nat.gcd n d))])
set_option maxHeartbeats 4000000 in
set_option maxRecDepth 100000 in
theorem zvA(neg:Bool)(n d:Nat)(hn:(dec n).length≤1000)(hd:(dec d).length≤1000)(h0:0<d):PCall Tryz.prog 113 [.bool neg,.str (dec n),.str (dec d)] (redR neg n d):=by
 have hΓ:=zf zqP (zf zel (zf cQuot_ok zh));have hg:=zxk (m:=n) h0 hd;have hg0:0<Nat.gcd n d:=Nat.gcd_pos_of_pos_right _ h0;have hz:decide (dec n=[48])=decide (n=0):=by simp only [dec_is_zero]
 unfold redR;by_cases hl:zdn (n / Nat.gcd n d)=true∨zdn (d / Nat.gcd n d)=true
 ·rw [if_pos hl];have hl':400<(dec (n / Nat.gcd n d)).length∨400<(dec (d / Nat.gcd n d)).length:=by simpa [zdn] using hl
  refine PCall.walk (rs:=[.cell 6 150]) [0,1,2,6,7,8,36] [] mixed (hΓ) (zg) zyi Tryz.func113 rfl Tryz.ntmps113 rfl (by kernel_rfl) (by simp) (by simp [push_cast]) ?_;simp (disch:=first|assumption|(push_cast<;>omega)|omega) only [go_sem];rw [show (decide (400<((dec (n / Nat.gcd n d)).length:Int))||decide (400<((dec (d / Nat.gcd n d)).length:Int)))=true by simp;omega];simp (disch:=first|assumption|(push_cast<;>omega)|omega) only [go_sem];simp only [zaV];simp (disch:=first|assumption|(push_cast<;>omega)|omega) only [go_sem];exact .pure (.ifc (.agg (by simp)))
 ·rw [if_neg hl];have hl':¬(400<(dec (n / Nat.gcd n d)).length∨400<(dec (d / Nat.gcd n d)).length):=by simpa [zdn] using hl
  refine PCall.walk (rs:=[.cell 6 150]) [0,1,2,6,7,8,36] [] mixed (hΓ) (zg) zyi Tryz.func113 rfl Tryz.ntmps113 rfl (by kernel_rfl) (by simp) (by simp [push_cast]) ?_;simp (disch:=first|assumption|(push_cast<;>omega)|omega) only [go_sem];rw [show (decide (400<((dec (n / Nat.gcd n d)).length:Int))||decide (400<((dec (d / Nat.gcd n d)).length:Int)))=false by simp;omega];simp (disch:=first|assumption|(push_cast<;>omega)|omega) only [go_sem,hz,decide_not];exact .pure (by simp [zV,zK,zQ])
noncomputable def zyz:List V→Option PR:=zB (fun p:Bool×Nat×Nat=>[.bool p.1,.str (dec p.2.1),.str (dec p.2.2)]) (fun p=>(dec p.2.1).length≤1000∧(dec p.2.2).length≤1000∧0<p.2.2) (fun p=>redR p.1 p.2.1 p.2.2)
theorem zjg:∀ args r,zyz args=some r→PCall Tryz.prog 113 args r:=zn fun p h=>zvA p.1 p.2.1 p.2.2 h.1 h.2.1 h.2.2
@[go_sem] theorem cReduce_eq(neg:Bool)(n d:Nat)(ln:(dec n).length≤1000)(ld:(dec d).length≤1000)(hd:0<d):zyz [.bool neg,.str (dec n),.str (dec d)]=some (redR neg n d):=
 zo (pat:=fun p:Bool×Nat×Nat=>[V.bool p.1,.str (dec p.2.1),.str (dec p.2.2)]) (fun x y h=>by obtain⟨x1,x2,x3⟩:=x;obtain⟨y1,y2,y3⟩:=y;simp at h;obtain⟨h1,h2,h3⟩:=h;rw [h1,zS h2,zS h3]) (neg,n,d) ⟨ln,ld,hd⟩
structure Two where
 p:Bool
 m:Nat
 d:Nat
 q:Bool
 n:Nat
 f:Nat
def Two.ok(x:Two):Prop:=(dec x.m).length≤400∧(dec x.d).length≤400∧0<x.d∧(dec x.n).length≤400∧(dec x.f).length≤400∧0<x.f
def Two.a(x:Two):List V:=[.bool x.p,.str (dec x.m),.str (dec x.d)]
def Two.b(x:Two):List V:=[.bool x.q,.str (dec x.n),.str (dec x.f)]
def Two.vs(x:Two):List V:=[.agg x.a,.agg x.b]
theorem Two.ab_inj {x y:Two}(ha:x.a=y.a)(hb:x.b=y.b):x=y:=by obtain⟨p,m,d,q,n,f⟩:=x;obtain⟨p',m',d',q',n',f'⟩:=y;simp only [Two.a,Two.b,List.cons.injEq,V.bool.injEq,V.str.injEq,and_true]at ha hb;obtain⟨rfl,h1,h2⟩:=ha;obtain⟨rfl,h3,h4⟩:=hb;rw [zS h1,zS h2,zS h3,zS h4]
theorem Two.vs_inj {x y:Two}(h:x.vs=y.vs):x=y:=by simp only [Two.vs,List.cons.injEq,V.agg.injEq,and_true]at h;exact Two.ab_inj h.1 h.2
def opN(k:Nat)(x:Two):Bool×Nat×Nat:=match k with
 |0=>(!(x.p==x.q),x.m*x.n,x.d*x.f)
 |1=>((sumS x.p (x.m*x.f) x.q (x.n*x.d)).1,(sumS x.p (x.m*x.f) x.q (x.n*x.d)).2,x.d*x.f)
 |_=>(!(x.p==x.q),x.m*x.f,x.d*x.n)
def opR(k:Nat)(x:Two):PR:=redR (opN k x).1 (opN k x).2.1 (opN k x).2.2
theorem zed(neg:Bool)(n d:Nat):redR neg n d=.panic longV∨∃ s a b,redR neg n d=.ret (.agg [.bool s,.str a,.str b]):=by
 unfold redR;split
 ·exact .inl rfl
 ·exact .inr ⟨_,_,_,rfl⟩
set_option maxHeartbeats 4000000 in
set_option maxRecDepth 100000 in
theorem opMul_ok(x:Two)(hx:x.ok)(hz:True):PCall Tryz.prog 112 x.vs (opR 0 x):=by
 have hΓ:=zf zkU (zf zel (zf zhL (zf zjg zh)));obtain⟨p,m,d,q,n,f⟩:=x;obtain⟨lm,ld,d0,ln,lf,f0⟩:=hx;simp only at lm ld d0 ln lf f0 hz;simp only [Two.vs,Two.a,Two.b,opR,opN];have l1:=zH lm lf;have l2:=zH ln ld;have l3:=zH ld lf;have l4:=zH lm ln;have l5:=zH ld ln;have h0:=Nat.mul_pos d0 f0;have l6:=zgn (p:=p) (q:=q) l1 l2;refine PCall.walk (rs:=[.cell 4 150]) [0,1,2,3,4] [] mixed (hΓ) (zg) call112 Tryz.func112 rfl Tryz.ntmps112 rfl (by kernel_rfl) (by simp) (by simp [push_cast]) ?_;rcases zed (!(p==q)) (m*n) (d*f)with hr|⟨s',a',b',hr⟩
 ·simp (disch:=first|assumption|(push_cast<;>omega)|omega) only [go_sem,hr];exact⟨by kernel_rfl,by kernel_rfl,.pure (.ifc (.agg (by simp)))⟩
 ·simp (disch:=first|assumption|(push_cast<;>omega)|omega) only [go_sem,hr];refine AXk.intro (by kernel_rfl) ?_;simp (disch:=first|assumption|(push_cast<;>omega)|omega) only [go_sem,hr];exact .pure (by simp [zV,zK,zQ])
set_option maxHeartbeats 4000000 in
set_option maxRecDepth 100000 in
theorem opAdd_ok(x:Two)(hx:x.ok)(hz:True):PCall Tryz.prog 119 x.vs (opR 1 x):=by
 have hΓ:=zf zkU (zf zel (zf zhL (zf zjg zh)));obtain⟨p,m,d,q,n,f⟩:=x;obtain⟨lm,ld,d0,ln,lf,f0⟩:=hx;simp only at lm ld d0 ln lf f0 hz;simp only [Two.vs,Two.a,Two.b,opR,opN];have l1:=zH lm lf;have l2:=zH ln ld;have l3:=zH ld lf;have l4:=zH lm ln;have l5:=zH ld ln;have h0:=Nat.mul_pos d0 f0;have l6:=zgn (p:=p) (q:=q) l1 l2;refine PCall.walk (rs:=[.cell 4 150]) [0,1,2,3,4,5,6] [] mixed (hΓ) (zg) call119 Tryz.func119 rfl Tryz.ntmps119 rfl (by kernel_rfl) (by simp) (by simp [push_cast]) ?_;rcases zed (sumS p (m*f) q (n*d)).1 (sumS p (m*f) q (n*d)).2 (d*f)with hr|⟨s',a',b',hr⟩
 ·simp (disch:=first|assumption|(push_cast<;>omega)|omega) only [go_sem,hr];refine AXk.intro (by kernel_rfl) ?_;simp (disch:=first|assumption|(push_cast<;>omega)|omega) only [go_sem,hr];exact .pure (.ifc (.agg (by simp)))
 ·simp (disch:=first|assumption|(push_cast<;>omega)|omega) only [go_sem,hr];refine AXk.intro (by kernel_rfl) ?_;simp (disch:=first|assumption|(push_cast<;>omega)|omega) only [go_sem,hr];exact .pure (by simp [zV,zK,zQ])
noncomputable def cOpMul:List V→Option PR:=zB Two.vs (fun x=>x.ok∧True) (opR 0)
theorem zy0:∀ args r,cOpMul args=some r→PCall Tryz.prog 112 args r:=zn fun x h=>opMul_ok x h.1 h.2
theorem zy1(x:Two)(hx:x.ok)(hz:True):cOpMul [.agg x.a,.agg x.b]=some (opR 0 x):=zo (pat:=Two.vs) (fun _ _ h=>Two.vs_inj h) x ⟨hx,hz⟩
set_option maxHeartbeats 4000000 in
set_option maxRecDepth 100000 in
theorem zrr(x:Two)(hx:x.ok)(hz:True):PCall Tryz.prog 147 [.fp [.fn 112 []],.fp x.a,.fp x.b] (opR 0 x):=by
 have hΓ:=zf zy0 zh;have hc:=zy1 x hx hz;obtain⟨p,m,d,q,n,f⟩:=x;simp only [Two.a,Two.b]at hc ⊢;refine PCall.walk (rs:=[.cell 3 150]) [0,1,2,3] [] mixed (hΓ) (zg) zyg Tryz.func147 rfl Tryz.ntmps147 rfl (by kernel_rfl) (by simp) (by simp [push_cast]) ?_;rcases zed (opN 0 ⟨p,m,d,q,n,f⟩).1 (opN 0 ⟨p,m,d,q,n,f⟩).2.1 (opN 0 ⟨p,m,d,q,n,f⟩).2.2 with hr|⟨s',a',b',hr⟩
 ·have hr':opR 0 ⟨p,m,d,q,n,f⟩=_:=hr;rw [hr']at hc ⊢;simp (disch:=first|assumption|(push_cast<;>omega)|omega) only [go_sem,hc];exact .pure (.ifc (.agg (by simp)))
 ·have hr':opR 0 ⟨p,m,d,q,n,f⟩=_:=hr;rw [hr']at hc ⊢;simp (disch:=first|assumption|(push_cast<;>omega)|omega) only [go_sem,hc];exact .pure (by simp [zV,zK,zQ])
noncomputable def cOpAdd:List V→Option PR:=zB Two.vs (fun x=>x.ok∧True) (opR 1)
theorem zy2:∀ args r,cOpAdd args=some r→PCall Tryz.prog 119 args r:=zn fun x h=>opAdd_ok x h.1 h.2
theorem zy3(x:Two)(hx:x.ok)(hz:True):cOpAdd [.agg x.a,.agg x.b]=some (opR 1 x):=zo (pat:=Two.vs) (fun _ _ h=>Two.vs_inj h) x ⟨hx,hz⟩
set_option maxHeartbeats 4000000 in
set_option maxRecDepth 100000 in
theorem zrt(x:Two)(hx:x.ok)(hz:True):PCall Tryz.prog 147 [.fp [.fn 119 []],.fp x.a,.fp x.b] (opR 1 x):=by
 have hΓ:=zf zy2 zh;have hc:=zy3 x hx hz;obtain⟨p,m,d,q,n,f⟩:=x;simp only [Two.a,Two.b]at hc ⊢;refine PCall.walk (rs:=[.cell 3 150]) [0,1,2,3] [] mixed (hΓ) (zg) zyg Tryz.func147 rfl Tryz.ntmps147 rfl (by kernel_rfl) (by simp) (by simp [push_cast]) ?_;rcases zed (opN 1 ⟨p,m,d,q,n,f⟩).1 (opN 1 ⟨p,m,d,q,n,f⟩).2.1 (opN 1 ⟨p,m,d,q,n,f⟩).2.2 with hr|⟨s',a',b',hr⟩
 ·have hr':opR 1 ⟨p,m,d,q,n,f⟩=_:=hr;rw [hr']at hc ⊢;simp (disch:=first|assumption|(push_cast<;>omega)|omega) only [go_sem,hc];exact .pure (.ifc (.agg (by simp)))
 ·have hr':opR 1 ⟨p,m,d,q,n,f⟩=_:=hr;rw [hr']at hc ⊢;simp (disch:=first|assumption|(push_cast<;>omega)|omega) only [go_sem,hc];exact .pure (by simp [zV,zK,zQ])
theorem zwb(neg:Bool)(n d:Nat)(hd:0<d):numT (neg&&decide (n≠0)) (n / Nat.gcd n d) (d / Nat.gcd n d)=ratT neg (n / Nat.gcd n d) (d / Nat.gcd n d):=by
 have hg:0<Nat.gcd n d:=Nat.gcd_pos_of_pos_right _ hd;have h0:n / Nat.gcd n d=0↔n=0:=by
  constructor
  ·intro h;rcases Nat.eq_zero_or_pos n with h1|h1
   ·exact h1
   ·have h2:=Nat.le_of_dvd h1 (Nat.gcd_dvd_left n d);have h3:=Nat.div_pos h2 hg;omega
  ·intro h;rw [h];simp
 unfold numT ratT;by_cases h1:n=0
 ·simp [h1]
 ·have h2:¬n / Nat.gcd n d=0:=fun h=>h1 (h0.1 h);cases neg<;>simp [h1,h2]
theorem zv9 {x:Two}(hx:x.ok):0<(opN 0 x).2.2∧0<(opN 1 x).2.2:=⟨Nat.mul_pos hx.2.2.1 hx.2.2.2.2.2,Nat.mul_pos hx.2.2.1 hx.2.2.2.2.2⟩
theorem ziA {caps:List V}{neg:Bool}{n d:Nat}(hd:0<d)(h:PCall Tryz.prog 147 caps (redR neg n d)):PCall Tryz.prog 146 [.fn 147 caps] (.ret (mkV neg n d)):=by
 unfold redR at h;unfold mkV;by_cases hl:zdn (n / Nat.gcd n d)=true∨zdn (d / Nat.gcd n d)=true
 ·rw [if_pos hl]at h ⊢;exact zuv h
 ·rw [if_neg hl]at h ⊢;have hl':¬(400<(dec (n / Nat.gcd n d)).length∨400<(dec (d / Nat.gcd n d)).length):=by simpa [zdn] using hl
  rw [←zwb neg n d hd];exact zuu h (zr4 _ _ _ (by omega) (by omega))
noncomputable def cWrMul:List V→Option PR:=zB (fun x:Two=>[.fn 147 [.fp [.fn 112 []],.fp x.a,.fp x.b]]) (fun x=>x.ok∧True) (fun x=>.ret (mkV (opN 0 x).1 (opN 0 x).2.1 (opN 0 x).2.2))
theorem zyl:∀ args r,cWrMul args=some r→PCall Tryz.prog 146 args r:=zn fun x h=>ziA ((zv9 h.1).1) (zrr x h.1 h.2)
theorem zym(x:Two)(hx:x.ok)(hz:True):cWrMul [.fn 147 [.fp [.fn 112 []],.fp x.a,.fp x.b]]=some (.ret (mkV (opN 0 x).1 (opN 0 x).2.1 (opN 0 x).2.2)):=
 zo (pat:=fun x:Two=>[V.fn 147 [.fp [.fn 112 []],.fp x.a,.fp x.b]]) (fun _ _ h=>by simp only [List.cons.injEq,V.fn.injEq,V.fp.injEq,true_and,and_true]at h;exact Two.ab_inj h.1 h.2) x ⟨hx,hz⟩
set_option maxHeartbeats 8000000 in
set_option maxRecDepth 100000 in
theorem zkP(a b:List UInt8)(la:a.length≤1000000000)(lb:b.length≤1000000000)(hz:True):PCall Tryz.prog 111 [.str a,.str b,.fn 112 []] (.ret (zaG a b)):=by
 have hΓ:=zf zfl (zf zyl zh);refine PCall.walk (rs:=[.tmp 6,.tmp 7]) [0,1,2,5,6,7,8,9,10,11,27] [] mixed (hΓ) (zg) zyj Tryz.func111 rfl Tryz.ntmps111 rfl (by kernel_rfl) (by simp) (by simp [push_cast]) ?_;cases ha:ratP a with
 |none=>
  rw [ziL b ha];cases hb:ratP b with
  |none=>simp (disch:=first|assumption|(push_cast<;>omega)|omega) only [go_sem,ha,hb,errV]
  |some y=>
   obtain⟨q,n,f⟩:=y;simp (disch:=first|assumption|(push_cast<;>omega)|omega) only [go_sem,ha,hb,errV]
 |some x=>
  obtain⟨p,m,d⟩:=x;cases hb:ratP b with
  |none=>
   rw [ziK a hb];simp (disch:=first|assumption|(push_cast<;>omega)|omega) only [go_sem,ha,hb,errV]
  |some y=>
   obtain⟨q,n,f⟩:=y;rw [ze0 ha hb];obtain⟨lm,ld,d0⟩:=zbu ha;obtain⟨ln,lf,f0⟩:=zbu hb;have hc:=zym ⟨p,m,d,q,n,f⟩ ⟨lm,ld,d0,ln,lf,f0⟩ (trivial);simp only [Two.a,Two.b,opN]at hc;obtain⟨s,e,hse⟩:=zfK (!(p==q)) (m*n) (d*f);rw [hse]at hc ⊢;simp (disch:=first|assumption|(push_cast<;>omega)|omega) only [go_sem,ha,hb,hc]
noncomputable def cWrAdd:List V→Option PR:=zB (fun x:Two=>[.fn 147 [.fp [.fn 119 []],.fp x.a,.fp x.b]]) (fun x=>x.ok∧True) (fun x=>.ret (mkV (opN 1 x).1 (opN 1 x).2.1 (opN 1 x).2.2))
theorem zyn:∀ args r,cWrAdd args=some r→PCall Tryz.prog 146 args r:=zn fun x h=>ziA ((zv9 h.1).2) (zrt x h.1 h.2)
theorem zyo(x:Two)(hx:x.ok)(hz:True):cWrAdd [.fn 147 [.fp [.fn 119 []],.fp x.a,.fp x.b]]=some (.ret (mkV (opN 1 x).1 (opN 1 x).2.1 (opN 1 x).2.2)):=
 zo (pat:=fun x:Two=>[V.fn 147 [.fp [.fn 119 []],.fp x.a,.fp x.b]]) (fun _ _ h=>by simp only [List.cons.injEq,V.fn.injEq,V.fp.injEq,true_and,and_true]at h;exact Two.ab_inj h.1 h.2) x ⟨hx,hz⟩
set_option maxHeartbeats 8000000 in
set_option maxRecDepth 100000 in
theorem zkQ(a b:List UInt8)(la:a.length≤1000000000)(lb:b.length≤1000000000)(hz:True):PCall Tryz.prog 111 [.str a,.str b,.fn 119 []] (.ret (zaH a b)):=by
 have hΓ:=zf zfl (zf zyn zh);refine PCall.walk (rs:=[.tmp 6,.tmp 7]) [0,1,2,5,6,7,8,9,10,11,27] [] mixed (hΓ) (zg) zyj Tryz.func111 rfl Tryz.ntmps111 rfl (by kernel_rfl) (by simp) (by simp [push_cast]) ?_;cases ha:ratP a with
 |none=>
  rw [ziN b ha];cases hb:ratP b with
  |none=>simp (disch:=first|assumption|(push_cast<;>omega)|omega) only [go_sem,ha,hb,errV]
  |some y=>
   obtain⟨q,n,f⟩:=y;simp (disch:=first|assumption|(push_cast<;>omega)|omega) only [go_sem,ha,hb,errV]
 |some x=>
  obtain⟨p,m,d⟩:=x;cases hb:ratP b with
  |none=>
   rw [ziM a hb];simp (disch:=first|assumption|(push_cast<;>omega)|omega) only [go_sem,ha,hb,errV]
  |some y=>
   obtain⟨q,n,f⟩:=y;rw [ze1 ha hb];obtain⟨lm,ld,d0⟩:=zbu ha;obtain⟨ln,lf,f0⟩:=zbu hb;have hc:=zyo ⟨p,m,d,q,n,f⟩ ⟨lm,ld,d0,ln,lf,f0⟩ (trivial);simp only [Two.a,Two.b,opN]at hc;obtain⟨s,e,hse⟩:=zfK (sumS p (m*f) q (n*d)).1 (sumS p (m*f) q (n*d)).2 (d*f);rw [hse]at hc ⊢;simp (disch:=first|assumption|(push_cast<;>omega)|omega) only [go_sem,ha,hb,hc]
end Go.Proofs
