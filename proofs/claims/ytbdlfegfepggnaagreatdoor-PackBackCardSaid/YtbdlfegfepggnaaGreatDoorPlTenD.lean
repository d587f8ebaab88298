/- Digit lists and decimal strings. No program in sight. -/
import Derived.Test.YtbdlfegfepggnaaGreatDoorQNat5
import Derived.Test.YtbdlfegfepggnaaGreatDoorQBld
import Derived.Laws.Externs
set_option linter.all false
set_option maxHeartbeats 16000000
set_option maxRecDepth 100000
noncomputable section
namespace Go.Pl
def dg(d:Nat):UInt8:=UInt8.ofNat (48+d)
end Go.Pl

namespace Go.Pl
theorem dec_zero:dec 0=[48]:=rfl
def dec_is_zero {n:Nat}:dec n=[48]↔n=0:=by
 constructor
 ·intro h;have:=Ya1 valD h;rw[zaL]at this;exact this
 rintro rfl;rfl
end Go.Pl

namespace Go.Pl
def zwF {U V v1 t P:Nat}(h1:0<v1)(hV:v1*P≤V)(hU:U<(t+1)*P):U/V≤t/v1:=by rw[YbE h1];have h2:U/V*V≤U:=Ycc U V;have h3:U/V*v1*P≤U:=Yw (by rw[YY];exact Y9 _ hV) h2;have h4:U/V*v1*P<(t+1)*P:=Ybb h3 hU;have:=Ybk h4;exact Nat.le_of_lt_succ this
def dig_dec {U V v1 v2 u2 t q r P:Nat}(hV:(v1*1000000000+v2)*P≤V)(hU:U<(t*1000000000+u2+1)*P)(he:q*v1+r=t)(h:r*1000000000+u2<q*v2):U/V<q:=by
 have hq:t*1000000000+u2+1≤q*(v1*1000000000+v2):=by rw[YM,←YY,←he,Y5];omega
 have h1:U<q*V:=calc
  U<(t*1000000000+u2+1)*P:=hU
  _≤q*(v1*1000000000+v2)*P:=YI _ hq
  _=q*((v1*1000000000+v2)*P):=YY ..
  _≤q*V:=Y9 _ hV
 have hVp:0<V:=by
  rcases YR V with h0|h0
  ·subst h0;simp at h1
  exact h0
 exact(YaQ hVp).2 h1
def dig_far {U V v1 t q r P:Nat}(hV:V≤(v1+1)*P)(hU:t*P≤U)(he:q*v1+r=t)(h:q≤r):q*V≤U:=calc
 q*V≤q*((v1+1)*P):=Y9 _ hV
 _=(q*v1+q)*P:=by rw[←YY,YM,Yas]
 _≤t*P:=YI _ Zo
 _≤U:=hU
def dig_near {U V v1 v2 u2 t q r P:Nat}(hV:V≤(v1*1000000000+v2+1)*P)(hU:(t*1000000000+u2)*P≤U)(he:q*v1+r=t)(h:q*v2≤r*1000000000+u2) (hq:q≤v1*1000000000+v2+1):(q-1)*V≤U:=by
 cases q with
 |zero=>simp
 |succ s=>
  rw[Ya9];refine Yw (Y9 _ hV) (Yw ?_ hU);rw[←YY];refine YI _ ?_;have e1:s*(v1*1000000000+v2+1)=s*v1*1000000000+s*v2+s:=by rw[YM,YM,Yas,YY]
  rw[e1];rw[Y5,YbH]at he h;generalize s*v1=a at*;generalize s*v2=b at*;omega
def zat(l:ZN)(k:Nat):valL (l.drop k)=l.getD k 0+1000000000*valL (l.drop (k+1)):=by
 by_cases h:k<l.length
 ·rw[Yaw h,valL];simp[Ya,h]
 rw[Yb0 Zo,Yb0 Zo,zbi _ _ _ Zo];simp[valL]
def zjP {l:ZN}(h:okL l)(k:Nat):okL (l.take k):=fun d hd=>h d (Ybp hd)
def zjQ {l:ZN}(h:okL l)(k:Nat):okL (l.drop k):=fun d hd=>h d (Yb8 hd)
def zjd(l:ZN)(k:Nat)(hk:k≤l.length):valL l=valL (l.take k)+1000000000^k*valL (l.drop k):=by
 conv=>lhs;rw[←Yaf k l]
 rw[zax];simp[YaZ hk]
def zc5 {l:ZN}(h:okL l)(k:Nat)(hk:k≤l.length):valL (l.drop k)*1000000000^k≤valL l∧valL l<(valL (l.drop k)+1)*1000000000^k:=by
 have h1:=zjd l k hk;have h2:valL (l.take k)<1000000000^k:=by have:=zY (zjP h k);rw[Y0,YaZ hk]at this;exact this
 generalize (1000000000:Nat)^k=p at*;generalize valL (l.drop k)=x at*;generalize valL (l.take k)=y at*;rw[h1,Yac p x,Y5];omega
def zbN {l:ZN}{k:Nat}(h:l.length≤k):valL (l.drop k)=0:=by rw[Yb0 h];rfl
def zfO(u v:ZN)(q r:Nat):Prop:=
 q*v.getD (v.length-1) 0+r=u.getD v.length 0*1000000000+u.getD (v.length-1) 0∧valL u/valL v≤q
structure DigOK(u v:ZN):Prop where
 ou:okL u
 ov:okL v
 len:u.length=v.length+1
 pos:0<v.length
 top:0<v.getD (v.length-1) 0
 less:valL u<valL v*1000000000
def DigOK.box1 {u v:ZN}(h:DigOK u v):v.getD (v.length-1) 0*1000000000^(v.length-1)≤valL v∧valL v≤(v.getD (v.length-1) 0+1)*1000000000^(v.length-1)∧(u.getD v.length 0*1000000000+u.getD (v.length-1) 0)*1000000000^(v.length-1)≤valL u∧valL u<(u.getD v.length 0*1000000000+u.getD (v.length-1) 0+1)*1000000000^(v.length-1):=by
 have hp:=h.pos;have hl:=h.len;have z1:valL (v.drop (v.length-1+1))=0:=zbN Zo;have z2:valL (u.drop (v.length+1))=0:=zbN Zo;have e1:valL (v.drop (v.length-1))=v.getD (v.length-1) 0:=by rw[zat,z1];omega
 have e2:valL (u.drop (v.length-1))=u.getD v.length 0*1000000000+u.getD (v.length-1) 0:=by rw[zat,show v.length-1+1=v.length by omega,zat u v.length,z2];omega
 have b1:=zc5 h.ov (v.length-1) Zo;have b2:=zc5 h.ou (v.length-1) Zo;rw[e1]at b1;rw[e2]at b2;exact⟨b1.1,YbY b1.2,b2.1,b2.2⟩
def DigOK.box2 {u v:ZN}(h:DigOK u v)(h2:1<v.length):(v.getD (v.length-1) 0*1000000000+v.getD (v.length-2) 0)*1000000000^(v.length-2)≤valL v∧valL v≤(v.getD (v.length-1) 0*1000000000+v.getD (v.length-2) 0+1)*1000000000^(v.length-2)∧((u.getD v.length 0*1000000000+u.getD (v.length-1) 0)*1000000000+u.getD (v.length-2) 0)*1000000000^(v.length-2)≤valL u∧valL u<((u.getD v.length 0*1000000000+u.getD (v.length-1) 0)*1000000000+u.getD (v.length-2) 0+1)*1000000000^(v.length-2):=by
 have hl:=h.len;have z1:valL (v.drop (v.length-1+1))=0:=zbN Zo;have z2:valL (u.drop (v.length+1))=0:=zbN Zo;have e1:valL (v.drop (v.length-2))=v.getD (v.length-1) 0*1000000000+v.getD (v.length-2) 0:=by rw[zat,show v.length-2+1=v.length-1 by omega,zat v (v.length-1),z1];omega
 have e2:valL (u.drop (v.length-2))=(u.getD v.length 0*1000000000+u.getD (v.length-1) 0)*1000000000+u.getD (v.length-2) 0:=by rw[zat,show v.length-2+1=v.length-1 by omega,zat u (v.length-1),show v.length-1+1=v.length by omega,zat u v.length,z2];omega
 have b1:=zc5 h.ov (v.length-2) Zo;have b2:=zc5 h.ou (v.length-2) Zo;rw[e1]at b1;rw[e2]at b2;exact⟨b1.1,YbY b1.2,b2.1,b2.2⟩
def DigOK.vpos {u v:ZN}(h:DigOK u v):0<valL v:=by have:=h.box1.1;have h1:=h.top;have h2:0<1000000000^(v.length-1):=Ycg Zo;generalize (1000000000:Nat)^(v.length-1)=p at*;have:=YbG h1 h2;omega
def DigOK.qlt {u v:ZN}(h:DigOK u v):valL u/valL v<1000000000:=
 (YaQ h.vpos).2 (by rw[Yac];exact h.less)
def zmg {u v:ZN}(h:DigOK u v):zfO u v ((u.getD v.length 0*1000000000+u.getD (v.length-1) 0)/v.getD (v.length-1) 0) ((u.getD v.length 0*1000000000+u.getD (v.length-1) 0)%v.getD (v.length-1) 0):=by obtain⟨b1,_,_,b4⟩:=h.box1;refine⟨?_,zwF h.top b1 b4⟩;rw[Yac];exact YbA _ _
def zsG {u v:ZN}{q r:Nat}(h:DigOK u v)(hi:zfO u v q r)(hq:1000000000≤q):zfO u v (q-1) (r+v.getD (v.length-1) 0):=by obtain⟨h1,h2⟩:=hi;have h3:=h.qlt;refine⟨?_,Zo⟩;rw[←h1];obtain⟨s,rfl⟩:∃s,q=s+1:=⟨q-1,Zo⟩;rw[Ya9,Y5,YbH];omega
def zog {u v:ZN}{q r:Nat}(h:DigOK u v)(hi:zfO u v q r)(hn:1<v.length)(hc:r*1000000000+u.getD (v.length-2) 0<q*v.getD (v.length-2) 0):zfO u v (q-1) (r+v.getD (v.length-1) 0):=by obtain⟨h1,h2⟩:=hi;obtain⟨b1,_,_,b4⟩:=h.box2 hn;have h3:=dig_dec b1 b4 h1 hc;have hq0:0<q:=Ybb (Yk _) h3;refine⟨?_,Nat.le_sub_one_of_lt h3⟩;rw[←h1];obtain⟨s,rfl⟩:∃s,q=s+1:=⟨q-1,Zo⟩;rw[Ya9,Y5,YbH];omega
def zcQ {u v:ZN}{q r:Nat}(h:DigOK u v)(hi:zfO u v q r)(hq:q<1000000000) (hc:v.length=1∨1000000000≤r∨q*v.getD (v.length-2) 0≤r*1000000000+u.getD (v.length-2) 0):(q-1)*valL v≤valL u:=by
 obtain⟨h1,h2⟩:=hi;obtain⟨b1,b2,b3,b4⟩:=h.box1;have weak:q*valL v≤valL u→(q-1)*valL v≤valL u:=fun e=>Yw (YI _ Zo) e;by_cases hn:v.length=1
 ·apply weak;simp only[hn,YaK,Nat.pow_zero,Yas]at b3 h1;have z:valL (v.drop (0+1))=0:=zbN Zo;have e:valL v=v.getD 0 0:=by have h0:=zat v 0;rw[z,YW]at h0;omega
  rw[e];omega
 rcases hc with hc|hc|hc
 ·exact absurd hc hn
 ·exact weak (dig_far b2 b3 h1 Zo)
 have hp:=h.pos;obtain⟨c1,c2,c3,c4⟩:=h.box2 Zo;refine dig_near c2 c3 h1 hc ?_;have:=h.top;omega
def zik(q:Nat)(u v:ZN)(i:Nat)(l:ZN)(b c:Nat):Prop:=
 l.length=u.length∧okL l∧(∀j,i≤j→l.getD j 0=u.getD j 0)∧valL (l.take i)+q*valL (v.take i)=valL (u.take i)+1000000000^i*(b+c)∧b≤1∧c<1000000000
def subP(q:Nat)(v:ZN)(i c:Nat):Nat:=c+q*v.getD i 0
def subD(l:ZN)(i p b:Nat):Nat:=l.getD i 0+1000000000-p%1000000000-b
def ztP {q:Nat}{v:ZN}{i c:Nat}(hq:q<1000000000)(ov:okL v)(hc:c<1000000000):subP q v i c<1000000000000000000:=by have h2:=getD_lt ov i;have h4:q*v.getD i 0≤999999999*999999999:=Ybd Zo Zo;unfold subP;generalize q*v.getD i 0=x at*;omega
def zpp {l:ZN}{i d:Nat}(hi:i<l.length):valL ((l.set i d).take (i+1))=valL (l.take i)+1000000000^i*d:=by rw[zae,Ybt (Yc _)];congr 2;rw[Ya,Ya4 hi];rfl
def sub_step {q:Nat}{u v:ZN}{i:Nat}{l:ZN}{b c:Nat}(hq:q<1000000000)(ov:okL v)(hi:i<u.length)(h:zik q u v i l b c):zik q u v (i+1) (l.set i (subD l i (subP q v i c) b%1000000000)) (1-subD l i (subP q v i c) b/1000000000) (subP q v i c/1000000000):=by
 obtain⟨h1,h2,h3,h4,h5,h6⟩:=h;have hp:=ztP (i:=i) hq ov h6;have hl:=getD_lt h2 i;have hli:l.getD i 0=u.getD i 0:=h3 i (Yc _);refine⟨by simpa using h1,zel h2 (YaL _ Zo),fun j hj=>by rw[zbo Zo];exact h3 j Zo,?_,Zo,Zo⟩;rw[zpp Zo,zae v,zae u,YM q,←hli,YG];have hsp:subP q v i c=c+q*v.getD i 0:=rfl;have e1:q*(1000000000^i*v.getD i 0)=1000000000^i*(q*v.getD i 0):=by rw[Nat.mul_left_comm]
 rw[e1];have key:subD l i (subP q v i c) b%1000000000+q*v.getD i 0+(b+c)=l.getD i 0+1000000000*(1-subD l i (subP q v i c) b/1000000000+subP q v i c/1000000000):=by unfold subD;generalize subP q v i c=p at*;generalize q*v.getD i 0=x at*;generalize l.getD i 0=y at*;omega
 have key2:(1000000000:Nat)^i*(subD l i (subP q v i c) b%1000000000+q*v.getD i 0+(b+c))=1000000000^i*(l.getD i 0+1000000000*(1-subD l i (subP q v i c) b/1000000000+subP q v i c/1000000000)):=by rw[key]
 rw[YM,YM,YM _ (l.getD i 0),←YY _ 1000000000]at key2;generalize (1000000000:Nat)^i*(subD l i (subP q v i c) b%1000000000)=a1 at*;generalize (1000000000:Nat)^i*(q*v.getD i 0)=a2 at*;generalize (1000000000:Nat)^i*(b+c)=a3 at*;generalize (1000000000:Nat)^i*l.getD i 0=a4 at*;generalize (1000000000:Nat)^i*1000000000*(1-subD l i (subP q v i c) b/1000000000+subP q v i c/1000000000)=a5 at*;generalize valL (l.take i)=a6 at*;generalize q*valL (v.take i)=a7 at*;generalize valL (u.take i)=a8 at*;omega
def ztN(q:Nat)(u v:ZN)(ou:okL u):zik q u v 0 u 0 0:=
 ⟨rfl,ou,fun _ _=>rfl,by simp[valL],Zo,Zo⟩
def sub_end {q:Nat}{u v l:ZN}{b c:Nat}(hq:q<1000000000)(h:DigOK u v)(hi:zik q u v u.length l b c)(hc0:c=0):valL l+q*valL v=valL u+1000000000^u.length*b:=by obtain⟨h1,h2,h3,h4,h5,h6⟩:=hi;have hl:=h.len;rw[←h1,Ym]at h4;rw[h1,Ym,Yp (l:=v) Zo,hc0,YS]at h4;exact h4
def ztO {q:Nat}{u v l:ZN}{b c:Nat}(hi:zik q u v v.length l b c):subP q v v.length c/1000000000=0:=by obtain⟨h1,h2,h3,h4,h5,h6⟩:=hi;unfold subP;rw[zbi v v.length 0 (Yc _),Y4,YS];omega
def dig_done {q:Nat}{u v l:ZN}(h:DigOK u v)(hq:valL u/valL v≤q)(he:valL l+q*valL v=valL u):q=valL u/valL v∧valL l=valL u%valL v:=by have hv:=h.vpos;have h1:q≤valL u/valL v:=(YbE hv).2 Zo;obtain rfl:q=valL u/valL v:=Nat.le_antisymm h1 hq;refine⟨rfl,?_⟩;have:=YbA (valL u) (valL v);rw[Yac]at this;omega
def dig_over {q:Nat}{u v l:ZN}(h:DigOK u v)(ol:okL l)(hl:l.length=u.length)(hq:valL u/valL v≤q)(hq1:(q-1)*valL v≤valL u)(he:valL l+q*valL v=valL u+1000000000^u.length):q=valL u/valL v+1∧valL l+valL v=valL u%valL v+1000000000^u.length:=by
 have hv:=h.vpos;have h1:q-1≤valL u/valL v:=(YbE hv).2 hq1;have hlt:=zY ol;rw[hl]at hlt;have h2:q≠valL u/valL v:=by intro e;have:=Ycc (valL u) (valL v);rw[←e]at this;omega
 have e:q=valL u/valL v+1:=Zo;refine⟨e,?_⟩;have:=YbA (valL u) (valL v);rw[Yac]at this;rw[e,Y5,YbH]at he;omega
def zfI(u v:ZN)(i:Nat)(l:ZN)(c:Nat):Prop:=
 l.length=u.length∧okL l∧(∀j,i≤j→l.getD j 0=u.getD j 0)∧valL (l.take i)+1000000000^i*c=valL (u.take i)+valL (v.take i)∧c≤1
def zib(l v:ZN)(i c:Nat):Nat:=l.getD i 0+c+v.getD i 0
def zyb {u v:ZN}{i:Nat}{l:ZN}{c:Nat}(ov:okL v)(hi:i<u.length)(h:zfI u v i l c):zfI u v (i+1) (l.set i (zib l v i c%1000000000)) (zib l v i c/1000000000):=by
 obtain⟨h1,h2,h3,h4,h5⟩:=h;have hl:=getD_lt h2 i;have hv:=getD_lt ov i;have hli:l.getD i 0=u.getD i 0:=h3 i (Yc _);have hs:zib l v i c=l.getD i 0+c+v.getD i 0:=rfl;refine⟨by simpa using h1,zel h2 (YaL _ Zo),fun j hj=>by rw[zbo Zo];exact h3 j Zo,?_,Zo⟩;rw[zpp Zo,zae v,zae u,←hli,YG];have hsp:=split_mul (1000000000^i) (zib l v i c);have hexp:1000000000^i*zib l v i c=1000000000^i*l.getD i 0+1000000000^i*c+1000000000^i*v.getD i 0:=by rw[hs,YM,YM]
 generalize (1000000000:Nat)^i*(zib l v i c%1000000000)=a1 at*;generalize (1000000000:Nat)^i*1000000000*(zib l v i c/1000000000)=a2 at*;generalize (1000000000:Nat)^i*zib l v i c=a3 at*;generalize (1000000000:Nat)^i*l.getD i 0=a4 at*;generalize (1000000000:Nat)^i*c=a5 at*;generalize (1000000000:Nat)^i*v.getD i 0=a6 at*;omega
def zte(u v:ZN)(ou:okL u):zfI u v 0 u 0:=⟨rfl,ou,fun _ _=>rfl,by simp[valL],Zo⟩
def back_end {u v l:ZN}{c r:Nat}(hv:v.length≤u.length)(hi:zfI u v u.length l c)(hr:r<1000000000^u.length)(he:valL u+valL v=r+1000000000^u.length):valL l=r:=by obtain⟨h1,h2,h3,h4,h5⟩:=hi;have hlt:=zY h2;rw[h1]at hlt;rw[Ym,Yp (l:=v) hv,Yp Zo]at h4;generalize (1000000000:Nat)^u.length=p at*;have hc:c=0∨c=1:=Zo;rcases hc with rfl|rfl<;>omega
def digs:Nat→Nat→ZN
 |0,_=>[]
 |k+1,x=>x%1000000000::digs k (x/1000000000)
def zfD:∀ {l:ZN},okL l→l=digs l.length (valL l)
 |[],_=>rfl
 |d::l,h=>by obtain⟨h1,h2⟩:=okL_cons.1 h;have ih:=zfD h2;show d::l=valL (d::l)%1000000000::digs l.length (valL (d::l)/1000000000);rw[valL];rw[show (d+1000000000*valL l)%1000000000=d by omega,show (d+1000000000*valL l)/1000000000=valL l by omega,←ih]
def zdg:∀(k x:Nat),(digs k x).length=k
 |0,_=>rfl
 |k+1,x=>by simp[digs,zdg k]
def zkm:∀(k x:Nat),okL (digs k x)
 |0,_=>fun _ h=>by cases h
 |k+1,x=>okL_cons.2 ⟨YaL _ Zo,zkm k _⟩
def zkl:∀(k x:Nat),x<1000000000^k→valL (digs k x)=x
 |0,x,h=>by simp at h;subst h;rfl
 |k+1,x,h=>by
  have h':x/1000000000<1000000000^k:=by rw[YG]at h;exact(YaQ Zo).2 h
  rw[digs,valL,zkl k _ h'];omega
end Go.Pl

namespace Go.Pl
def zqU(k:Nat)(s:ZL):valD (List.replicate k 48++s)=valD s:=by
 rw[zc6];have:valD (List.replicate k 48)=0:=by
  induction k with
  |zero=>rfl
  |succ k ih=>rw[Ya6,zcB,ih];have:(48:UInt8).toNat-48=0:=rfl;rw[this,Y4]
 rw[this,Y4,Yae]
def zwI {v:Nat}(h:0<v):((dec v).getD 0 0).toNat≠48:=by
 by_cases h1:10≤v
 ·exact zp7 h1
 rw[zbA Zo];show (UInt8.ofNat (48+v)).toNat≠48;rw[zcE Zo];omega
def pad_len {d:Nat}(hd:d<1000000000):(List.replicate (9-(dec d).length) (48:UInt8)++dec d).length=9:=by have:(dec d).length≤9:=zcR Zo Zo;simp;omega
def zwH {v d:Nat}(hv:0<v)(hd:d<1000000000):dec (d+1000000000*v)=dec v++(List.replicate (9-(dec d).length) 48++dec d):=by
 have h1:valD (dec v++(List.replicate (9-(dec d).length) 48++dec d))=d+1000000000*v:=by rw[zc6,pad_len hd,zqU,zaL,zaL];omega
 rw[←h1];refine zp6 ?_ ?_ (.inr ?_)
 ·rw[YbD,YbD,zfF,zfF];simp only[Yau,Yav];refine Yl.2 fun x hx=>?_;have:=YaO hx;rw[this];rfl
 ·exact fun e=>zmh v (List.append_eq_nil_iff.1 e).1
 have hp:=zdL v;rw[Ya,YP hp,←Ya];exact zwI hv
def topV(l:ZN)(i:Nat):Nat:=valL (l.drop (l.length-i))
def zk1(l:ZN):topV l 0=0:=zbN Zo
def zgx {l:ZN}{i:Nat}(h:i<l.length):topV l (i+1)=l.getD (l.length-1-i) 0+1000000000*topV l i:=by unfold topV;rw[zat,show l.length-(i+1)+1=l.length-i by omega,show l.length-(i+1)=l.length-1-i by omega]
def topV_pos {n i:Nat}(hn:n≠0)(hi:0<i)(hl:i≤(limbs n).length):0<topV (limbs n) i:=by
 have h1:=zcc hn;have h2:topV (limbs n) 1≠0:=by rw[zgx Zo,zk1];simpa using h1
 obtain⟨j,rfl⟩:∃j,i=j+1:=⟨i-1,Zo⟩;clear hi;induction j with
 |zero=>exact Ybz h2
 |succ j ih=>have:=ih Zo;rw[zgx Zo];omega
def topV_all(n:Nat):topV (limbs n) (limbs n).length=n:=by unfold topV;rw[YaK,YW,zD]
end Go.Pl

namespace Go.Proofs
open Tryz Go.Ab Go.Pl
def FmtOK:Prop:=∀d:Nat,d<1000000000→PCall prog 185 [.int .u64 d,.int .i64 10] (.ret (.str (dec d)))
def RepOK:Prop:=∀k:Nat,k≤8→PCall prog 187 [.str [48],.int .i64 k] (.ret (.str (List.replicate k 48)))
def cFmt:ZV:=zL (fun d:Nat=>[.int .u64 d,.int .i64 10]) (fun d=>d<1000000000) (fun d=>.ret (.str (dec d)))
def cFmt_ok(h:FmtOK):ZC cFmt 185:=zn h
def zoB(d:Nat)(h:d<1000000000):cFmt [.int .u64 d,.int .i64 10]=some (.ret (.str (dec d))):=zo (pat:=fun d:Nat=>[V.int .u64 d,.int .i64 10]) (fun x y h=>by simp at h;omega) d h
def cRep:ZV:=zL (fun k:Nat=>[.str [48],.int .i64 k]) (fun k=>k≤8) (fun k=>.ret (.str (List.replicate k 48)))
def cRep_ok(h:RepOK):ZC cRep 187:=zn h
def zxo(k:Nat)(h:k≤8):cRep [.str [48],.int .i64 k]=some (.ret (.str (List.replicate k 48))):=zo (pat:=fun k:Nat=>[V.str [48],.int .i64 k]) (fun x y h=>by simp at h;omega) k h
def topV_len {l:ZN}(ok:okL l){i:Nat}(hi:i≤l.length):(dec (topV l i)).length≤9*i+1:=by
 refine zcR ?_ Zo;have h1:=zY (zjQ ok (l.length-i));rw[Yai,show l.length-(l.length-i)=i by omega]at h1;have h3:(10:Nat)^(9*i+1)=1000000000^i*10:=by rw[YG,Nat.pow_mul]
 rw[h3];unfold topV;generalize (1000000000:Nat)^i=p at*;omega
def text_ok(hF:FmtOK)(hR:RepOK)(n:Nat)(hn:(limbs n).length≤100000):PCall prog 175 [.fs (nats .u64 (limbs n)) (limbs n).length] (.ret (.str (dec n))):=by
 have hΓ:=zf (cFmt_ok hF) (zf (cRep_ok hR) zh);refine Xa (rs:=[.tmp 2]) [0,2,3,4,5,8,10,11,12,24] [] mixed (hΓ) (ztu) call175 func175 rfl ntmps175 rfl ?_;by_cases h0:n=0
 ·subst h0;simp only[go_sem,zaA];rfl
 have hl0:0<(limbs n).length:=by
  rcases YR (limbs n).length with h|h
  ·exact absurd (limbs_nil.1 (Yz h)) h0
  exact h
 have ok:=zI n;have hpos:=fun i hi hl=>topV_pos (i:=i) h0 hi hl;have hall:=topV_all n;have hsz:∀i,i≤(limbs n).length→(dec (topV (limbs n) i)).length≤1000000:=fun i hi=>by have:=topV_len ok hi;omega
 generalize limbs n=l at*;have hd0:decide ((l.length:Int)=0)=false:=by rw[Yat];omega
 simp(disch:=try exact Zq)only[go_sem,hd0];refine AXs.loop mixed (hΓ) (ztu) (fun i:Nat=>[(0,.fs (nats .u64 l) l.length),(3,.ptr 0 0),(10,.int .i64 l.length),(11,.int .i64 i)]) (fun i=>match i with|0=>⟨[(0,bl0)],1⟩|i+1=>⟨[(0,bl1 0 1 (dec (topV l (i+1))).length),(1,bly (dec (topV l (i+1))))],2⟩) (fun i=>i≤l.length) (fun i=>l.length-i) 0 Zk (Yk _) (Xb [] rfl rfl ?_ ?_) ?_
 ·simp only[go_sem]
 ·simp only[go_sem,bl0,zlp]
 rintro i hi;have hts:=fun h=>zgx (l:=l) (i:=i) h;have hdl:=getD_lt ok (l.length-1-i);rcases i with _|i
 ·have hdt:topV l 1=l.getD (l.length-1) 0:=by have:=hts hl0;rwa [zk1,Y4,YS,YbW]at this
  rw[YbW]at hdl;have hd1:decide (0<(l.length:Int))=true:=by rw[Yn];omega
  have hn1:dec (l.getD (l.length-1) 0)≠[]:=zmh _;have hs1:=hsz 1 hl0;rw[hdt]at hs1;simp(disch:=try exact Zq)only[go_sem,hd1,zoB,ΔB_0,Int.sub_zero];refine⟨⟨Zo,Zo⟩,Zo,?_⟩;refine zi 1 Zo Zo (Xb [] rfl rfl ?_ ?_)
  ·simp only[go_sem]
  rw[hdt];simp only[go_sem,bl1,bly,zlp];exact zB (zaj _)
 simp(disch:=try exact Zq)only[go_sem];refine Xc (fun h1=>?_) (fun h1=>?_)
 ·have hlt:i+1<l.length:=Zo;have hdt:=hts hlt;have hv:=hpos (i+1) Zo hi;have hs1:=hsz (i+1) hi;have hs2:=hsz (i+1+1) hlt;rw[hdt,zwH hv hdl]at hs2;have hcast:(9:Int)-((dec (l.getD (l.length-1-(i+1)) 0)).length:Nat)=((9-(dec (l.getD (l.length-1-(i+1)) 0)).length:Nat):Int):=by have:(dec (l.getD (l.length-1-(i+1)) 0)).length≤9:=zcR Zo Zo;omega
  have hp0:=zdL (l.getD (l.length-1-(i+1)) 0);have hn1:dec (l.getD (l.length-1-(i+1)) 0)≠[]:=zmh _;have hd1:decide (0<((i+1:Nat):Int))=true:=by rw[Yn];omega
  have hpl:(List.replicate (9-(dec (l.getD (l.length-1-(i+1)) 0)).length) (48:UInt8)).length≤1000000:=by simp;omega
  rw[Yg,Yg]at hs2;have hdt':=Ya1 dec hdt;rw[zwH hv hdl]at hdt';by_cases hz:9-(dec (l.getD (l.length-1-(i+1)) 0)).length=0
  ·have hpad:List.replicate (9-(dec (l.getD (l.length-1-(i+1)) 0)).length) (48:UInt8)=[]:=by rw[hz];rfl
   rw[hpad,YaY]at hdt';simp(disch:=try exact Zq)only[go_sem,hd1,zoB,hcast,zxo,hpad,ΔB_e,ΔB_1];refine⟨⟨Zo,Zo⟩,Zo,?_⟩;refine zi (i+1+1) hlt Zo (Xb [(1,2)] rfl rfl ?_ ?_)
   ·simp only[go_sem];simp
   rw[hdt'];simp only[Yg];simp only[go_sem,bl1,bly,zlp];exact zB (zaj _)
  have hpn:List.replicate (9-(dec (l.getD (l.length-1-(i+1)) 0)).length) (48:UInt8)≠[]:=fun e=>hz (by simpa using congrArg List.length e);have hl2:(dec (topV l (i+1))++List.replicate (9-(dec (l.getD (l.length-1-(i+1)) 0)).length) (48:UInt8)).length≤1000000:=by rw[Yg];omega
  simp(disch:=try exact Zq)only[go_sem,hd1,zoB,hcast,zxo,ΔB_1,ΔB_3,Yg];refine⟨⟨Zo,Zo⟩,Zo,?_⟩;refine zi (i+1+1) hlt Zo (Xb [(1,3)] rfl rfl ?_ ?_)
  ·simp only[go_sem];simp
  rw[hdt'];simp only[Yg,YH,YO];simp only[go_sem,bl1,bly,zlp];exact zB (zaj _)
 have hie:i+1=l.length:=Zo;rw[hie,hall];have hs:=hsz (i+1) hi;rw[hie,hall]at hs;have hp:=zdL n;simp(disch:=try exact Zq)only[go_sem];refine AXa.go mixed (hΓ) (ztu) Zk ?_;simp(disch:=try exact Zq)only[go_sem,ΔB_s]
end Go.Proofs

namespace Go.Proofs
open Tryz Go.Ab
def ixB(s:ZL)(c:UInt8):Int:=match s.findIdx? (· ==c)with|some i=>i|none=> -1
def find_range {α:Type} [Inhabited α](l:List α)(p:α→Bool):(List.range l.length).find? (fun i=>p (l.getD i default))=l.findIdx? p:=by
 induction l with
 |nil=>rfl
 |cons a l ih=>
  rw[Yv,List.range_succ_eq_map,List.find?_cons,Ybj];have e0:(a::l).getD 0 default=a:=rfl;rw[e0];cases h:p a with
  |true=>rfl
  |false=>simp only[Y2,if_false];rw[List.find?_map,←ih];congr 1
def get_bang(s:ByteArray)(i:Nat):s[i]! =s.data.toList.getD i default:=by
 by_cases h:i<s.size
 ·rw[getElem!_pos s i h];have h':i<s.data.toList.length:=h;rw[Ya,Yb h'];rfl
 rw[getElem!_neg s i h];have h':¬i<s.data.toList.length:=h;rw[Ya,Yo Zo];rfl
def index_ok(s:ZL)(c:UInt8):PCall prog 215 [.str s,.int .u8 (c.toNat:Int)] (.ret (.int .i64 (ixB s c))):=by
 intro g w vs _ _ hvs hpw;obtain⟨u0,h0,r0⟩:=hpw 0 _ rfl;obtain⟨u1,h1,r1⟩:=hpw 1 _ rfl;obtain⟨b,rfl,hb⟩:=r0.inv_str;obtain rfl:=r1.inv_int;have hv:vs=#[.string b,.int .u8 (c.toNat:Int)]:=by
  apply Yao;intro i;match i with
  |0=>exact h0
  |1=>exact h1
  |i+2=>rw[Yr (by simp at hvs;omega)];rfl
 subst hv;refine .inr ⟨.int .i64 (ixB s c),w,?_,fun _=>none,.int .i64 (ixB s c),fun c a e=>(by cases e),Bel.refl _ _,rfl,.int _ _⟩;rw[run_callFunc_extern (fn:=Tryz.f215) func215 Zk rfl rfl (e:=Go.Extern.BytealgIndexByte.indexByte) Zk];have hI:(Go.Extern.BytealgIndexByte.indexByte #[.string b,.int .u8 (c.toNat:Int)]).run prog w=(match (List.range b.size).find? (fun i=>b[i]! ==(c.toNat:Int).toNat.toUInt8)with|some i=>Result.ok (.int .i64 (i:Int)) w|none=>.ok (.int .i64 (-1)) w):=by
  show ((match (List.range b.size).find? (fun i=>b[i]! ==(c.toNat:Int).toNat.toUInt8)with|some i=>pure (goInt i)|none=>pure (goInt (-1)):Sem Value)).run prog w=_;cases (List.range b.size).find? (fun i=>b[i]! ==(c.toNat:Int).toNat.toUInt8)<;>rfl
 have e1:(fun i=>b[i]! ==c)=fun i=>(fun x=>x==c) (b.data.toList.getD i default):=by funext i;rw[get_bang]
 have e2:b.size=b.data.toList.length:=rfl;have e3:((c.toNat:Int).toNat.toUInt8)=c:=Zs;rw[hI,e3,show List.find? (fun i=>b[i]! ==c) (List.range b.size)=s.findIdx? (fun x=>x==c)from by(rw[e1,e2,←hb];exact find_range b.data.toList (fun x=>x==c))];unfold ixB;cases s.findIdx? (fun x=>x==c)<;>rfl
end Go.Proofs

namespace Go.Proofs
open Tryz Go.Ab Go.Pl
def zxQ:ZV:=zL (fun p:ZL×UInt8=>[.str p.1,.int .u8 (p.2.toNat:Int)]) (fun _=>True) (fun p=>.ret (.int .i64 (ixB p.1 p.2)))
def zs7:ZC zxQ 215:=zn fun p _=>index_ok p.1 p.2
@[go_sem]def cIndexB_eq(s:ZL)(c:UInt8):zxQ [.str s,.int .u8 (c.toNat:Int)]=some (.ret (.int .i64 (ixB s c))):=zo (fun p q h=>by simp at h;obtain⟨h1,h2⟩:=h;have:p.2=q.2:=YbB.1 Zo;exact YaC h1 this) (s,c) trivial
theorem zl6(s:ZL)(c:UInt8):PCall prog 203 [.str s,.int .u8 (c.toNat:Int)] (.ret (.int .i64 (ixB s c))):=by have hΓ:=zf zs7 zh;refine Xa (rs:=[.tmp 4]) [0,1,4] [] mixed (hΓ) (zg) call203 func203 rfl ntmps203 rfl ?_;simp only[go_sem]
def ziV:ZV:=zL (fun p:ZL×UInt8=>[.str p.1,.int .u8 (p.2.toNat:Int)]) (fun _=>True) (fun p=>.ret (.int .i64 (ixB p.1 p.2)))
def zkx:ZC ziV 203:=zn fun p _=>zl6 p.1 p.2
@[go_sem]def cIndexByte_eq(s:ZL)(c:UInt8):ziV [.str s,.int .u8 (c.toNat:Int)]=some (.ret (.int .i64 (ixB s c))):=zo (fun p q h=>by simp at h;obtain⟨h1,h2⟩:=h;have:p.2=q.2:=YbB.1 Zo;exact YaC h1 this) (s,c) trivial
def zwd(s:ZL)(c:UInt8):PCall prog 193 [.str s,.str [c]] (.ret (.int .i64 (ixB s c))):=by
 have hΓ:=zf zkx zh;refine Xa (rs:=[.tmp 4]) [0,1,4,5,6,7,8,9,10,11,12,13,16,24,31,36,59,64,73,93,107,114,132,139] [] mixed (hΓ) (zg) call193 func193 rfl ntmps193 rfl ?_;simp only[go_sem];refine Xc (fun h1=>?_) (fun h1=>?_)
 ·have h2:ixB s c=0:=by rw[←h1];simp[ixB,Ybj]
  simp only[go_sem,h2]
 simp only[go_sem];rfl
def zxR:ZV:=zL (fun p:ZL×UInt8=>[.str p.1,.str [p.2]]) (fun _=>True) (fun p=>.ret (.int .i64 (ixB p.1 p.2)))
def zs8:ZC zxR 193:=zn fun p _=>zwd p.1 p.2
@[go_sem]def cIndex1_eq(s:ZL)(c:UInt8):zxR [.str s,.str [c]]=some (.ret (.int .i64 (ixB s c))):=zo (fun p q h=>by simp at h;exact YaC h.1 h.2) (s,c) trivial
def cutV(s:ZL)(c:UInt8):V:=match s.findIdx? (· ==c)with
 |some i=>.tup [.str (s.take i),.str (s.drop (i+1)),.bool true]
 |none=>.tup [.str s,.str [],.bool false]
def zsz {s:ZL}{c:UInt8}{i:Nat}(h:s.findIdx? (· ==c)=some i):i<s.length:=by rw[YbQ]at h;exact h.1
def cutL_ok(s:ZL)(c:UInt8)(hs:s.length≤1000000000):PCall prog 180 [.str s,.str [c]] (.ret (cutV s c)):=by
 have hΓ:=zf zs8 zh;refine Xa (rs:=[.tmp 4,.tmp 5,.tmp 6]) [0,1,4,5,6,7,12] [] mixed (hΓ) (zg) call180 func180 rfl ntmps180 rfl ?_;simp only[go_sem];have hx:ixB s c=match s.findIdx? (· ==c)with|some i=>(i:Int)|none=> -1:=rfl
 unfold cutV;cases h:s.findIdx? (· ==c)with
 |none=>rw[h]at hx;simp only at hx;rw[hx];simp only[go_sem]
 |some i=>
  rw[h]at hx;simp only at hx;rw[hx];have hi:=zsz h;simp only[go_sem];refine Xc (fun h1=>?_) (fun h1=>?_);rotate_left;·omega
  simp(disch:=try exact Zq)only[go_sem];refine⟨⟨Zo,Zo⟩,⟨Zo,Zo,Zo⟩,?_⟩;rw[Ym]
def cutV_tup(s:ZL)(c:UInt8):∃a b d,cutV s c=.tup [.str a,.str b,.bool d]:=by unfold cutV;split<;>exact⟨_,_,_,rfl⟩
def cCutL:ZV:=zL (fun p:ZL×UInt8=>[.str p.1,.str [p.2]]) (fun p=>p.1.length≤1000000000) (fun p=>.ret (cutV p.1 p.2))
def cCutL_ok:ZC cCutL 180:=zn fun p h=>cutL_ok p.1 p.2 h
@[go_sem]def cCutL_eq(s:ZL)(c:UInt8)(h:s.length≤1000000000):cCutL [.str s,.str [c]]=some (.ret (cutV s c)):=zo (fun p q h=>by simp at h;exact YaC h.1 h.2) (s,c) h
def cut_ok(s:ZL)(c:UInt8)(hs:s.length≤1000000000):PCall prog 160 [.str s,.str [c]] (.ret (cutV s c)):=by have hΓ:=zf cCutL_ok zh;refine Xa (rs:=[.tmp 4,.tmp 5,.tmp 6]) [0,1,4,5,6] [] mixed (hΓ) (zg) call160 func160 rfl ntmps160 rfl ?_;obtain⟨a,b,d,h⟩:=cutV_tup s c;simp(disch:=try exact Zq)only[go_sem,h]
def cCut:ZV:=zL (fun p:ZL×UInt8=>[.str p.1,.str [p.2]]) (fun p=>p.1.length≤1000000000) (fun p=>.ret (cutV p.1 p.2))
def cCut_ok:ZC cCut 160:=zn fun p h=>cut_ok p.1 p.2 h
@[go_sem]def cCut_eq(s:ZL)(c:UInt8)(h:s.length≤1000000000):cCut [.str s,.str [c]]=some (.ret (cutV s c)):=zo (fun p q h=>by simp at h;exact YaC h.1 h.2) (s,c) h
def zkj(s p:ZL):PCall prog 192 [.str s,.str p] (.ret (.bool (p.isPrefixOf s))):=by
 refine Xa (rs:=[.tmp 4]) [0,1,4] [] mixed (zh) (zg) call192 func192 rfl ntmps192 rfl ?_;simp only[go_sem];refine⟨fun h=>⟨h,Zo,by simpa using h⟩,?_⟩;rw[Ybn];simp only[Yj,Yn,List.isPrefixOf_iff_prefix];constructor
 ·rintro⟨h1,h2⟩;rw[←h2];exact List.take_prefix _ _
 rintro⟨t,rfl⟩;exact⟨by simp;omega,Zs⟩
def zhE:ZV:=zL (fun p:ZL×ZL=>[.str p.1,.str p.2]) (fun _=>True) (fun p=>.ret (.bool (p.2.isPrefixOf p.1)))
def zee:ZC zhE 192:=zn fun p _=>zkj p.1 p.2
@[go_sem]def cHasPrefixL_eq(s p:ZL):zhE [.str s,.str p]=some (.ret (.bool (p.isPrefixOf s))):=zo (fun p q h=>by simp at h;exact YaC h.1 h.2) (s,p) trivial
theorem zl7(s p:ZL):PCall prog 199 [.str s,.str p] (.ret (.bool (p.isPrefixOf s))):=by have hΓ:=zf zee zh;refine Xa (rs:=[.tmp 4]) [0,1,4] [] mixed (hΓ) (zg) call199 func199 rfl ntmps199 rfl ?_;simp only[go_sem]
def ziW:ZV:=zL (fun p:ZL×ZL=>[.str p.1,.str p.2]) (fun _=>True) (fun p=>.ret (.bool (p.2.isPrefixOf p.1)))
def zaN:ZC ziW 199:=zn fun p _=>zl7 p.1 p.2
@[go_sem]def cHasPrefix_eq(s p:ZL):ziW [.str s,.str p]=some (.ret (.bool (p.isPrefixOf s))):=zo (fun p q h=>by simp at h;exact YaC h.1 h.2) (s,p) trivial
def zbd(s p:ZL):V:=if p.isPrefixOf s=true then .tup [.str (s.drop p.length),.bool true]else .tup [.str s,.bool false]
def zoi(s p:ZL):PCall prog 179 [.str s,.str p] (.ret (zbd s p)):=by
 have hΓ:=zf zee zh;refine Xa (rs:=[.tmp 4,.tmp 5]) [0,1,4,5,9] [] mixed (hΓ) (zg) call179 func179 rfl ntmps179 rfl ?_;unfold zbd;cases h:p.isPrefixOf s with
 |false=>simp only[go_sem,h]
 |true=>
  have hl:p.length≤s.length:=by rw[List.isPrefixOf_iff_prefix]at h;obtain⟨t,rfl⟩:=h;simp
  simp(disch:=try exact Zq)only[go_sem,h,Ym];omega
def zmj(s p:ZL):∃a d,zbd s p=.tup [.str a,.bool d]:=by unfold zbd;split<;>exact⟨_,_,rfl⟩
def zmw:ZV:=zL (fun p:ZL×ZL=>[.str p.1,.str p.2]) (fun _=>True) (fun p=>.ret (zbd p.1 p.2))
def zmv:ZC zmw 179:=zn fun p _=>zoi p.1 p.2
@[go_sem]def cCutPrefL_eq(s p:ZL):zmw [.str s,.str p]=some (.ret (zbd s p)):=zo (fun p q h=>by simp at h;exact YaC h.1 h.2) (s,p) trivial
theorem zsH(s p:ZL):PCall prog 159 [.str s,.str p] (.ret (zbd s p)):=by have hΓ:=zf zmv zh;refine Xa (rs:=[.tmp 4,.tmp 5]) [0,1,4,5] [] mixed (hΓ) (zg) call159 func159 rfl ntmps159 rfl ?_;obtain⟨a,d,h⟩:=zmj s p;simp(disch:=try exact Zq)only[go_sem,h]
def zqo:ZV:=zL (fun p:ZL×ZL=>[.str p.1,.str p.2]) (fun _=>True) (fun p=>.ret (zbd p.1 p.2))
def zoC:ZC zqo 159:=zn fun p _=>zsH p.1 p.2
@[go_sem]def cCutPref_eq(s p:ZL):zqo [.str s,.str p]=some (.ret (zbd s p)):=zo (fun p q h=>by simp at h;exact YaC h.1 h.2) (s,p) trivial
end Go.Proofs
