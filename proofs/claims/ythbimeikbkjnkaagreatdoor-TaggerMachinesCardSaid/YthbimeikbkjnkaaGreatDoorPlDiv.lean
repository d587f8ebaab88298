/- Division block by block (the schoolbook's, with guessed digits); no program in sight. -/
import Derived.Test.YthbimeikbkjnkaaGreatDoorPlNat
set_option linter.all false
set_option maxHeartbeats 16000000
set_option maxRecDepth 100000
namespace Go.Pl
theorem zzC {U V v1 t P:Nat}(h1:0<v1)(hV:v1*P≤V)(hU:U<(t+1)*P):U / V≤t / v1:=by rw [Yb7 h1];have h2:U / V*V≤U:=YcG U V;have h3:U / V*v1*P≤U:=Yn (by rw [Y9];exact Y3 _ hV) h2;have h4:U / V*v1*P<(t+1)*P:=YaN h3 hU;have:=YaS h4;exact Nat.le_of_lt_succ this
theorem dig_dec {U V v1 v2 u2 t q r P:Nat}(hV:(v1*1000000000+v2)*P≤V)(hU:U<(t*1000000000+u2+1)*P)(he:q*v1+r=t)(h:r*1000000000+u2<q*v2):U / V<q:=by
 have hq:t*1000000000+u2+1≤q*(v1*1000000000+v2):=by rw [YK, ←Y9, ←he,YV];omega
 have h1:U<q*V:=calc
  U<(t*1000000000+u2+1)*P:=hU
  _≤q*(v1*1000000000+v2)*P:=YH _ hq
  _=q*((v1*1000000000+v2)*P):=Y9 ..
  _≤q*V:=Y3 _ hV
 have hVp:0<V:=by
  rcases YD V with h0|h0
  ·subst h0;simp at h1
  ·exact h0
 exact(YaH hVp).2 h1
theorem dig_far {U V v1 t q r P:Nat}(hV:V≤(v1+1)*P)(hU:t*P≤U)(he:q*v1+r=t)(h:q≤r):q*V≤U:=calc
 q*V≤q*((v1+1)*P):=Y3 _ hV
 _=(q*v1+q)*P:=by rw [←Y9,YK,Yap]
 _≤t*P:=YH _ (by omega)
 _≤U:=hU
theorem dig_near {U V v1 v2 u2 t q r P:Nat}(hV:V≤(v1*1000000000+v2+1)*P)(hU:(t*1000000000+u2)*P≤U)(he:q*v1+r=t)(h:q*v2≤r*1000000000+u2)
 (hq:q≤v1*1000000000+v2+1):(q - 1)*V≤U:=by
 cases q with
 |zero=>simp
 |succ s=>
  rw [Ybf]
  refine Yn (Y3 _ hV) (Yn ?_ hU)
  rw [←Y9]
  refine YH _ ?_
  have e1:s*(v1*1000000000+v2+1)=s*v1*1000000000+s*v2+s:=by rw [YK,YK,Yap,Y9]
  rw [e1]
  rw [YV,YaI]at he h
  generalize s*v1=a at*
  generalize s*v2=b at*
  omega
theorem zaD(l:List Nat)(k:Nat):valL (l.drop k)=l.getD k 0+1000000000*valL (l.drop (k+1)):=by
 by_cases h:k<l.length
 ·rw [YaV h,valL];simp [Ya,h]
 ·rw [Ycu (by omega),Ycu (by omega),za6 _ _ _ (by omega)];simp [valL]
theorem zkT {l:List Nat}(h:okL l)(k:Nat):okL (l.take k):=fun d hd=>h d (Ybh hd)
theorem zkU {l:List Nat}(h:okL l)(k:Nat):okL (l.drop k):=fun d hd=>h d (Ybw hd)
theorem zkb(l:List Nat)(k:Nat)(hk:k≤l.length):valL l=valL (l.take k)+1000000000 ^ k*valL (l.drop k):=by
 conv=>lhs;rw [←YaP k l]
 rw [zaI];simp [YaK hk]
theorem zdt {l:List Nat}(h:okL l)(k:Nat)(hk:k≤l.length):valL (l.drop k)*1000000000 ^ k≤valL l∧valL l<(valL (l.drop k)+1)*1000000000 ^ k:=by
 have h1:=zkb l k hk;have h2:valL (l.take k)<1000000000 ^ k:=by have:=valL_lt (zkT h k);rw [YG,YaK hk]at this;exact this
 generalize (1000000000:Nat) ^ k=p at*;generalize valL (l.drop k)=x at*;generalize valL (l.take k)=y at*;rw [h1,Yay p x,YV];omega
theorem zb9 {l:List Nat}{k:Nat}(h:l.length≤k):valL (l.drop k)=0:=by rw [Ycu h];rfl
def zgz(u v:List Nat)(q r:Nat):Prop:=
 q*v.getD (v.length - 1) 0+r=u.getD v.length 0*1000000000+u.getD (v.length - 1) 0∧valL u / valL v≤q
structure DigOK(u v:List Nat):Prop where
 ou:okL u
 ov:okL v
 len:u.length=v.length+1
 pos:0<v.length
 top:0<v.getD (v.length - 1) 0
 less:valL u<valL v*1000000000
theorem DigOK.box1 {u v:List Nat}(h:DigOK u v):v.getD (v.length - 1) 0*1000000000 ^ (v.length - 1)≤valL v∧valL v≤(v.getD (v.length - 1) 0+1)*1000000000 ^ (v.length - 1)∧
 (u.getD v.length 0*1000000000+u.getD (v.length - 1) 0)*1000000000 ^ (v.length - 1)≤valL u∧valL u<(u.getD v.length 0*1000000000+u.getD (v.length - 1) 0+1)*1000000000 ^ (v.length - 1):=by
 have hp:=h.pos
 have hl:=h.len
 have z1:valL (v.drop (v.length - 1+1))=0:=zb9 (by omega)
 have z2:valL (u.drop (v.length+1))=0:=zb9 (by omega)
 have e1:valL (v.drop (v.length - 1))=v.getD (v.length - 1) 0:=by rw [zaD,z1];omega
 have e2:valL (u.drop (v.length - 1))=u.getD v.length 0*1000000000+u.getD (v.length - 1) 0:=by rw [zaD,show v.length - 1+1=v.length by omega,zaD u v.length,z2];omega
 have b1:=zdt h.ov (v.length - 1) (by omega)
 have b2:=zdt h.ou (v.length - 1) (by omega)
 rw [e1]at b1
 rw [e2]at b2
 exact⟨b1.1,YbA b1.2,b2.1,b2.2⟩
theorem DigOK.box2 {u v:List Nat}(h:DigOK u v)(h2:1<v.length):(v.getD (v.length - 1) 0*1000000000+v.getD (v.length - 2) 0)*1000000000 ^ (v.length - 2)≤valL v∧
 valL v≤(v.getD (v.length - 1) 0*1000000000+v.getD (v.length - 2) 0+1)*1000000000 ^ (v.length - 2)∧
 ((u.getD v.length 0*1000000000+u.getD (v.length - 1) 0)*1000000000+u.getD (v.length - 2) 0)*1000000000 ^ (v.length - 2)≤valL u∧
 valL u<((u.getD v.length 0*1000000000+u.getD (v.length - 1) 0)*1000000000+u.getD (v.length - 2) 0+1)*1000000000 ^ (v.length - 2):=by
 have hl:=h.len
 have z1:valL (v.drop (v.length - 1+1))=0:=zb9 (by omega)
 have z2:valL (u.drop (v.length+1))=0:=zb9 (by omega)
 have e1:valL (v.drop (v.length - 2))=v.getD (v.length - 1) 0*1000000000+v.getD (v.length - 2) 0:=by rw [zaD,show v.length - 2+1=v.length - 1 by omega,zaD v (v.length - 1),z1];omega
 have e2:valL (u.drop (v.length - 2))=(u.getD v.length 0*1000000000+u.getD (v.length - 1) 0)*1000000000+u.getD (v.length - 2) 0:=by rw [zaD,show v.length - 2+1=v.length - 1 by omega,zaD u (v.length - 1),show v.length - 1+1=v.length by omega,zaD u v.length,z2];omega
 have b1:=zdt h.ov (v.length - 2) (by omega)
 have b2:=zdt h.ou (v.length - 2) (by omega)
 rw [e1]at b1
 rw [e2]at b2
 exact⟨b1.1,YbA b1.2,b2.1,b2.2⟩
theorem DigOK.vpos {u v:List Nat}(h:DigOK u v):0<valL v:=by have:=h.box1.1;have h1:=h.top;have h2:0<1000000000 ^ (v.length - 1):=YcO (by omega);generalize (1000000000:Nat) ^ (v.length - 1)=p at*;have:=Ya1 h1 h2;omega
theorem DigOK.qlt {u v:List Nat}(h:DigOK u v):valL u / valL v<1000000000:=
 (YaH h.vpos).2 (by rw [Yay];exact h.less)
theorem znE {u v:List Nat}(h:DigOK u v):zgz u v ((u.getD v.length 0*1000000000+u.getD (v.length - 1) 0) / v.getD (v.length - 1) 0) ((u.getD v.length 0*1000000000+u.getD (v.length - 1) 0) % v.getD (v.length - 1) 0):=by obtain⟨b1,_,_,b4⟩:=h.box1;refine⟨?_,zzC h.top b1 b4⟩;rw [Yay];exact Ya2 _ _
theorem zu6 {u v:List Nat}{q r:Nat}(h:DigOK u v)(hi:zgz u v q r)(hq:1000000000≤q):zgz u v (q - 1) (r+v.getD (v.length - 1) 0):=by obtain⟨h1,h2⟩:=hi;have h3:=h.qlt;refine⟨?_,by omega⟩;rw [←h1];obtain⟨s,rfl⟩:∃ s,q=s+1:=⟨q - 1,by omega⟩;rw [Ybf,YV,YaI];omega
theorem zp1 {u v:List Nat}{q r:Nat}(h:DigOK u v)(hi:zgz u v q r)(hn:1<v.length)(hc:r*1000000000+u.getD (v.length - 2) 0<q*v.getD (v.length - 2) 0):zgz u v (q - 1) (r+v.getD (v.length - 1) 0):=by obtain⟨h1,h2⟩:=hi;obtain⟨b1,_,_,b4⟩:=h.box2 hn;have h3:=dig_dec b1 b4 h1 hc;have hq0:0<q:=YaN (Yk _) h3;refine⟨?_,Nat.le_sub_one_of_lt h3⟩;rw [←h1];obtain⟨s,rfl⟩:∃ s,q=s+1:=⟨q - 1,by omega⟩;rw [Ybf,YV,YaI];omega
theorem zdl {u v:List Nat}{q r:Nat}(h:DigOK u v)(hi:zgz u v q r)(hq:q<1000000000)
 (hc:v.length=1∨1000000000≤r∨q*v.getD (v.length - 2) 0≤r*1000000000+u.getD (v.length - 2) 0):(q - 1)*valL v≤valL u:=by
 obtain⟨h1,h2⟩:=hi
 obtain⟨b1,b2,b3,b4⟩:=h.box1
 have weak:q*valL v≤valL u→(q - 1)*valL v≤valL u:=fun e=>Yn (YH _ (by omega)) e
 by_cases hn:v.length=1
 ·apply weak
  simp only [hn,Ybp,Nat.pow_zero,Yap]at b3 h1
  have z:valL (v.drop (0+1))=0:=zb9 (by omega)
  have e:valL v=v.getD 0 0:=by have h0:=zaD v 0;rw [z,Y2]at h0;omega
  rw [e]
  omega
 ·rcases hc with hc|hc|hc
  ·exact absurd hc hn
  ·exact weak (dig_far b2 b3 h1 (by omega))
  ·have hp:=h.pos
   obtain⟨c1,c2,c3,c4⟩:=h.box2 (by omega)
   refine dig_near c2 c3 h1 hc ?_
   have:=h.top
   omega
def zjh(q:Nat)(u v:List Nat)(i:Nat)(l:List Nat)(b c:Nat):Prop:=
 l.length=u.length∧okL l∧(∀ j,i≤j→l.getD j 0=u.getD j 0)∧valL (l.take i)+q*valL (v.take i)=valL (u.take i)+1000000000 ^ i*(b+c)∧b≤1∧c<1000000000
def subP(q:Nat)(v:List Nat)(i c:Nat):Nat:=c+q*v.getD i 0
def subD(l:List Nat)(i p b:Nat):Nat:=l.getD i 0+1000000000 - p % 1000000000 - b
theorem zwE {q:Nat}{v:List Nat}{i c:Nat}(hq:q<1000000000)(ov:okL v)(hc:c<1000000000):subP q v i c<1000000000000000000:=by have h2:=getD_lt ov i;have h4:q*v.getD i 0≤999999999*999999999:=Yak (by omega) (by omega);unfold subP;generalize q*v.getD i 0=x at*;omega
theorem zq8 {l:List Nat}{i d:Nat}(hi:i<l.length):valL ((l.set i d).take (i+1))=valL (l.take i)+1000000000 ^ i*d:=by rw [zaf,Ych (Ye _)];congr 2;rw [Ya,YbB hi];rfl
theorem sub_step {q:Nat}{u v:List Nat}{i:Nat}{l:List Nat}{b c:Nat}(hq:q<1000000000)(ov:okL v)(hi:i<u.length)(h:zjh q u v i l b c):
 zjh q u v (i+1) (l.set i (subD l i (subP q v i c) b % 1000000000)) (1 - subD l i (subP q v i c) b / 1000000000) (subP q v i c / 1000000000):=by
 obtain⟨h1,h2,h3,h4,h5,h6⟩:=h
 have hp:=zwE (i:=i) hq ov h6
 have hl:=getD_lt h2 i
 have hli:l.getD i 0=u.getD i 0:=h3 i (Ye _)
 refine⟨by simpa using h1,zeZ h2 (YaM _ (by omega)),fun j hj=>by rw [zbG (by omega)];exact h3 j (by omega),?_,by omega,by omega⟩
 rw [zq8 (by omega),zaf v,zaf u,YK q, ←hli,YP]
 have hsp:subP q v i c=c+q*v.getD i 0:=rfl
 have e1:q*(1000000000 ^ i*v.getD i 0)=1000000000 ^ i*(q*v.getD i 0):=by rw [Nat.mul_left_comm]
 rw [e1]
 have key:subD l i (subP q v i c) b % 1000000000+q*v.getD i 0+(b+c)=l.getD i 0+1000000000*(1 - subD l i (subP q v i c) b / 1000000000+subP q v i c / 1000000000):=by unfold subD;generalize subP q v i c=p at*;generalize q*v.getD i 0=x at*;generalize l.getD i 0=y at*;omega
 have key2:(1000000000:Nat) ^ i*(subD l i (subP q v i c) b % 1000000000+q*v.getD i 0+(b+c))=1000000000 ^ i*(l.getD i 0+1000000000*(1 - subD l i (subP q v i c) b / 1000000000+subP q v i c / 1000000000)):=by rw [key]
 rw [YK,YK,YK _ (l.getD i 0), ←Y9 _ 1000000000]at key2
 generalize (1000000000:Nat) ^ i*(subD l i (subP q v i c) b % 1000000000)=a1 at*
 generalize (1000000000:Nat) ^ i*(q*v.getD i 0)=a2 at*
 generalize (1000000000:Nat) ^ i*(b+c)=a3 at*
 generalize (1000000000:Nat) ^ i*l.getD i 0=a4 at*
 generalize (1000000000:Nat) ^ i*1000000000*(1 - subD l i (subP q v i c) b / 1000000000+subP q v i c / 1000000000)=a5 at*
 generalize valL (l.take i)=a6 at*
 generalize q*valL (v.take i)=a7 at*
 generalize valL (u.take i)=a8 at*
 omega
theorem zwC(q:Nat)(u v:List Nat)(ou:okL u):zjh q u v 0 u 0 0:=
 ⟨rfl,ou,fun _ _=>rfl,by simp [valL],by omega,by omega⟩
theorem sub_end {q:Nat}{u v l:List Nat}{b c:Nat}(hq:q<1000000000)(h:DigOK u v)(hi:zjh q u v u.length l b c)(hc0:c=0):valL l+q*valL v=valL u+1000000000 ^ u.length*b:=by obtain⟨h1,h2,h3,h4,h5,h6⟩:=hi;have hl:=h.len;rw [←h1,YQ]at h4;rw [h1,YQ,Yj (l:=v) (by omega),hc0,Y5]at h4;exact h4
theorem zwD {q:Nat}{u v l:List Nat}{b c:Nat}(hi:zjh q u v v.length l b c):subP q v v.length c / 1000000000=0:=by obtain⟨h1,h2,h3,h4,h5,h6⟩:=hi;unfold subP;rw [za6 v v.length 0 (Ye _),YY,Y5];omega
theorem dig_done {q:Nat}{u v l:List Nat}(h:DigOK u v)(hq:valL u / valL v≤q)(he:valL l+q*valL v=valL u):q=valL u / valL v∧valL l=valL u % valL v:=by have hv:=h.vpos;have h1:q≤valL u / valL v:=(Yb7 hv).2 (by omega);obtain rfl:q=valL u / valL v:=Nat.le_antisymm h1 hq;refine⟨rfl,?_⟩;have:=Ya2 (valL u) (valL v);rw [Yay]at this;omega
theorem dig_over {q:Nat}{u v l:List Nat}(h:DigOK u v)(ol:okL l)(hl:l.length=u.length)(hq:valL u / valL v≤q)(hq1:(q - 1)*valL v≤valL u)(he:valL l+q*valL v=valL u+1000000000 ^ u.length):
 q=valL u / valL v+1∧valL l+valL v=valL u % valL v+1000000000 ^ u.length:=by
 have hv:=h.vpos
 have h1:q - 1≤valL u / valL v:=(Yb7 hv).2 hq1
 have hlt:=valL_lt ol
 rw [hl]at hlt
 have h2:q≠valL u / valL v:=by intro e;have:=YcG (valL u) (valL v);rw [←e]at this;omega
 have e:q=valL u / valL v+1:=by omega
 refine⟨e,?_⟩
 have:=Ya2 (valL u) (valL v)
 rw [Yay]at this
 rw [e,YV,YaI]at he
 omega
def zgp(u v:List Nat)(i:Nat)(l:List Nat)(c:Nat):Prop:=
 l.length=u.length∧okL l∧(∀ j,i≤j→l.getD j 0=u.getD j 0)∧valL (l.take i)+1000000000 ^ i*c=valL (u.take i)+valL (v.take i)∧c≤1
def zi8(l v:List Nat)(i c:Nat):Nat:=l.getD i 0+c+v.getD i 0
theorem zBs {u v:List Nat}{i:Nat}{l:List Nat}{c:Nat}(ov:okL v)(hi:i<u.length)(h:zgp u v i l c):zgp u v (i+1) (l.set i (zi8 l v i c % 1000000000)) (zi8 l v i c / 1000000000):=by
 obtain⟨h1,h2,h3,h4,h5⟩:=h;have hl:=getD_lt h2 i;have hv:=getD_lt ov i;have hli:l.getD i 0=u.getD i 0:=h3 i (Ye _);have hs:zi8 l v i c=l.getD i 0+c+v.getD i 0:=rfl;refine⟨by simpa using h1,zeZ h2 (YaM _ (by omega)),fun j hj=>by rw [zbG (by omega)];exact h3 j (by omega),?_,by omega⟩;rw [zq8 (by omega),zaf v,zaf u, ←hli,YP];have hsp:=split_mul (1000000000 ^ i) (zi8 l v i c);have hexp:1000000000 ^ i*zi8 l v i c=1000000000 ^ i*l.getD i 0+1000000000 ^ i*c+1000000000 ^ i*v.getD i 0:=by rw [hs,YK,YK]
 generalize (1000000000:Nat) ^ i*(zi8 l v i c % 1000000000)=a1 at*;generalize (1000000000:Nat) ^ i*1000000000*(zi8 l v i c / 1000000000)=a2 at*;generalize (1000000000:Nat) ^ i*zi8 l v i c=a3 at*;generalize (1000000000:Nat) ^ i*l.getD i 0=a4 at*;generalize (1000000000:Nat) ^ i*c=a5 at*;generalize (1000000000:Nat) ^ i*v.getD i 0=a6 at*;omega
theorem zvS(u v:List Nat)(ou:okL u):zgp u v 0 u 0:=⟨rfl,ou,fun _ _=>rfl,by simp [valL],by omega⟩
theorem back_end {u v l:List Nat}{c r:Nat}(hv:v.length≤u.length)(hi:zgp u v u.length l c)(hr:r<1000000000 ^ u.length)(he:valL u+valL v=r+1000000000 ^ u.length):valL l=r:=by
 obtain⟨h1,h2,h3,h4,h5⟩:=hi;have hlt:=valL_lt h2;rw [h1]at hlt;rw [YQ,Yj (l:=v) hv,Yj (by omega)]at h4;generalize (1000000000:Nat) ^ u.length=p at*;have hc:c=0∨c=1:=by omega
 rcases hc with rfl|rfl<;>omega
def digs:Nat→Nat→List Nat
 |0,_=>[]
 |k+1,x=>x % 1000000000::digs k (x / 1000000000)
theorem zgg:∀ {l:List Nat},okL l→l=digs l.length (valL l)
 |[],_=>rfl
 |d::l,h=>by obtain⟨h1,h2⟩:=okL_cons.1 h;have ih:=zgg h2;show d::l=valL (d::l) % 1000000000::digs l.length (valL (d::l) / 1000000000);rw [valL];rw [show (d+1000000000*valL l) % 1000000000=d by omega,show (d+1000000000*valL l) / 1000000000=valL l by omega, ←ih]
theorem zdL:∀(k x:Nat),(digs k x).length=k
 |0,_=>rfl
 |k+1,x=>by simp [digs,zdL k]
theorem zlA:∀(k x:Nat),okL (digs k x)
 |0,_=>fun _ h=>by cases h
 |k+1,x=>okL_cons.2 ⟨YaM _ (by omega),zlA k _⟩
theorem zlz:∀(k x:Nat),x<1000000000 ^ k→valL (digs k x)=x
 |0,x,h=>by simp at h;subst h;rfl
 |k+1,x,h=>by
  have h':x / 1000000000<1000000000 ^ k:=by rw [YP]at h;exact(YaH (by omega)).2 h
  rw [digs,valL,zlz k _ h'];omega
end Go.Pl

namespace Go.Pl
def mid(l:List Nat)(a k:Nat)(s:List Nat):List Nat:=l.take a++s++l.drop (a+k)
theorem zpp {l s:List Nat}{a k:Nat}(hs:s.length=k)(h:a+k≤l.length):(mid l a k s).length=l.length:=by unfold mid;simp;omega
theorem mid_ok {l s:List Nat}{a k:Nat}(ol:okL l)(os:okL s):okL (mid l a k s):=by unfold mid;exact okL_append.2 ⟨okL_append.2 ⟨zkT ol _,os⟩,zkU ol _⟩
theorem mid_drop {l s:List Nat}{a k:Nat}(h:a≤l.length):(mid l a k s).drop a=s++l.drop (a+k):=by unfold mid;rw [Ybl];exact List.drop_left' (by simp [h])
theorem mid_take {l s:List Nat}{a k:Nat}(h:a≤l.length):(mid l a k s).take a=l.take a:=by unfold mid;rw [Ybl];exact YcE (by simp [h])
structure DivInv(X:Nat)(v:List Nat)(m e:Nat)(q u:List Nat):Prop where
 ou:okL u
 lu:u.length=m
 oq:okL q
 lq:q.length+v.length=m
 low:valL (u.drop e)<valL v
 sum:valL u+valL v*(1000000000 ^ e*valL (q.drop e))=X
def seg(u:List Nat)(a n:Nat):List Nat:=(u.drop a).take (n+1)
theorem DivInv.segm {X:Nat}{v:List Nat}{m a:Nat}{q u:List Nat}(h:DivInv X v m (a+1) q u)(ov:okL v)(hv:0<v.length)(ht:0<v.getD (v.length - 1) 0)(ha:a+v.length+1≤m):
 DigOK (seg u a v.length) v∧valL (seg u a v.length)=valL (u.drop a)∧valL (u.drop (a+(v.length+1)))=0:=by
 have h1:=zaD u a
 have h2:=h.low
 have h3:=getD_lt h.ou a
 have hl:(seg u a v.length).length=v.length+1:=by unfold Go.Pl.seg;simp [h.lu];omega
 have h4:valL (u.drop a)=valL (seg u a v.length)+1000000000 ^ (v.length+1)*valL (u.drop (a+(v.length+1))):=by have:=zkb (u.drop a) (v.length+1) (by simp [h.lu];omega);rw [Ybd]at this;exact this
 have h5:valL (u.drop a)<valL v*1000000000:=by omega
 have h6:=valL_lt ov
 have h7:valL (u.drop (a+(v.length+1)))=0:=by
  rw [YP]at h4;generalize (1000000000:Nat) ^ v.length=p at*;generalize valL (u.drop (a+(v.length+1)))=z at*;rcases YD z with h0|h0
  ·exact h0
  ·have:p*1000000000*1≤p*1000000000*z:=Y3 _ h0;omega
 rw [h7,YY,Y5]at h4
 exact⟨⟨zkT (zkU h.ou _) _,ov,hl,hv,ht,by rw [←h4];exact h5⟩,h4.symm,h7⟩
theorem DivInv.step {X:Nat}{v:List Nat}{m a:Nat}{q u:List Nat}(h:DivInv X v m (a+1) q u)(ov:okL v)(hv:0<v.length)(ht:0<v.getD (v.length - 1) 0)(ha:a+v.length+1≤m):
 DivInv X v m a (q.set a (valL (seg u a v.length) / valL v)) (mid u a (v.length+1) (digs (v.length+1) (valL (seg u a v.length) % valL v))):=by
 obtain⟨hd,hs,hz⟩:=h.segm ov hv ht ha
 have hvp:=hd.vpos
 have hmod:valL (seg u a v.length) % valL v<valL v:=YaM _ hvp
 have hlt:valL (seg u a v.length) % valL v<1000000000 ^ (v.length+1):=by have:=valL_lt ov;rw [YP];generalize (1000000000:Nat) ^ v.length=p at*;omega
 have hval:=zlz (v.length+1) _ hlt
 have hua:a≤u.length:=by rw [h.lu];omega
 have hdrop:valL ((mid u a (v.length+1) (digs (v.length+1) (valL (seg u a v.length) % valL v))).drop a)=valL (seg u a v.length) % valL v:=by rw [mid_drop hua,zaI,hval,hz,YY,Y5]
 have hlen:=zpp (l:=u) (a:=a) (zdL (v.length+1) (valL (seg u a v.length) % valL v)) (by rw [h.lu];omega)
 have hqa:a<q.length:=by have:=h.lq;omega
 refine⟨mid_ok h.ou (zlA _ _),by rw [hlen,h.lu],zeZ h.oq hd.qlt,by rw [YL];exact h.lq,by rw [hdrop];exact hmod,?_⟩
 rw [zkb _ a (by rw [hlen];exact hua),hdrop,mid_take hua,zaD (q.set a _) a,Yci (by omega)]
 have e1:(q.set a (valL (seg u a v.length) / valL v)).getD a 0=valL (seg u a v.length) / valL v:=by rw [Ya,YbB hqa];rfl
 rw [e1]
 have h8:=h.sum
 rw [zkb u a hua, ←hs,YP]at h8
 have h9:=Ya2 (valL (seg u a v.length)) (valL v)
 rw [←h8]
 generalize valL (seg u a v.length) / valL v=d at*
 generalize valL (seg u a v.length) % valL v=r at*
 generalize valL (seg u a v.length)=S at*
 generalize (1000000000:Nat) ^ a=p at*
 generalize valL (q.drop (a+1))=Q at*
 generalize valL v=V at*
 rw [←h9,YK p,YK p,YK V]
 have i1:V*(p*d)=p*(V*d):=Nat.mul_left_comm ..
 have i2:V*(p*(1000000000*Q))=V*(p*1000000000*Q):=by rw [Y9 p]
 rw [i1,i2]
 omega
theorem DivInv.done {X:Nat}{v:List Nat}{m:Nat}{q u:List Nat}(h:DivInv X v m 0 q u):zav q=limbs (X / valL v)∧zav u=limbs (X % valL v):=by have h1:=h.low;have h2:=h.sum;simp only [Y2,Nat.pow_zero,YaI]at h1 h2;have hd:=(Nat.div_mod_unique (show 0<valL v by omega)).2 ⟨h2,h1⟩;rw [za5 h.oq,za5 h.ou,hd.1,hd.2];exact⟨rfl,rfl⟩
theorem DivInv.start {X Y k n m:Nat}(hx:0<(limbs X).length)(hm:m=(limbs X).length+1)(hn:n=(limbs Y).length)(hY:Y≠0)(hXY:Y≤X)(hk:k<1000000000)(hk0:0<k)
 (hv:(limbs (Y*k)).length=n) (hnm:n<m):DivInv (X*k) (limbs (Y*k)) m (m - n) (List.replicate (m - n) 0) (digs m (X*k)):=by
 have hX1:X<1000000000 ^ (limbs X).length:=by have:=valL_lt (zF X);rwa [zC]at this
 have hY1:1000000000 ^ (n - 1)≤Y:=by have h1:=zdt (zF Y) (n - 1) (by omega);have h2:=zcz hY;have z:valL ((limbs Y).drop (n - 1+1))=0:=zb9 (by omega);rw [zC,zaD,z,YY,Y5]at h1;rw [←hn]at h2;have h3:=h1.1;generalize (1000000000:Nat) ^ (n - 1)=p at*;have:1*p≤(limbs Y).getD (n - 1) 0*p:=YH _ (by omega);omega
 have hn0:0<n:=by
  rcases YD n with h0|h0
  ·exfalso;rw [h0]at hn;exact hY (limbs_nil.1 (Yr hn.symm))
  ·exact h0
 have hXk:X*k<1000000000 ^ m:=by rw [hm,YP];exact Ybr hX1 (by omega) (by omega)
 have hval:=zlz m _ hXk
 have hlow:valL ((digs m (X*k)).drop (m - n))<Y*k:=by
  have h1:=(zdt (zlA m (X*k)) (m - n) (by rw [zdL];omega)).1;rw [hval]at h1;have h2:X*k<Y*k*1000000000 ^ (m - n):=by
   have h3:X<Y*1000000000 ^ (m - n):=by have:1000000000 ^ (n - 1)*1000000000 ^ (m - n)≤Y*1000000000 ^ (m - n):=YH _ hY1;rw [←Ycn,show n - 1+(m - n)=(limbs X).length by omega]at this;omega
   have h4:X*k<Y*1000000000 ^ (m - n)*k:=YbC h3 hk0;rw [Nat.mul_right_comm]at h4;exact h4
  exact YaS (YaN h1 h2)
 have hz:∀ j,valL (List.replicate j 0)=0:=by
  intro j;induction j with
  |zero=>rfl
  |succ j ih=>rw [Ybs,valL,ih]
 refine⟨zlA _ _,zdL _ _,fun d hd=>by have:=Ybe hd;omega,by rw [Yw,hv];omega,by rw [zC];exact hlow,?_⟩
 have z:valL ((List.replicate (m - n) 0).drop (m - n))=0:=zb9 (by simp)
 rw [hval,z,YY,YY,Y5]
def zmy(k:Nat)(r0:List Nat)(e:Nat)(r:List Nat)(c:Nat):Prop:=
 r.length=r0.length∧okL r∧r.take e=r0.take e∧valL (r.drop e)*k+c=valL (r0.drop e)∧c<k
theorem zxm {k:Nat}{r0:List Nat}(hk:0<k)(o:okL r0):zmy k r0 r0.length r0 0:=
 ⟨rfl,o,rfl,by rw [zb9 (Ye _),Ybm],hk⟩
theorem rem_step {k:Nat}{r0 r:List Nat}{e c:Nat}(hk:k<1000000000)(he:e<r0.length)(h:zmy k r0 (e+1) r c):
 zmy k r0 e (r.set e ((c*1000000000+r.getD e 0) / k)) ((c*1000000000+r.getD e 0) % k)∧c*1000000000+r.getD e 0<1000000000000000000:=by
 obtain⟨h1,h2,h3,h4,h5⟩:=h
 have hr:=getD_lt h2 e
 have hkp:0<k:=by omega
 have hre:r.getD e 0=r0.getD e 0:=by rw [←getD_take r (e+1) e 0 (by omega),h3,getD_take r0 (e+1) e 0 (by omega)]
 have hc:c*1000000000+r.getD e 0<k*1000000000:=by
  have:c*1000000000+1000000000≤k*1000000000:=by omega
  omega
 refine⟨⟨by simpa using h1,zeZ h2 ((YaH hkp).2 (by omega)),?_,?_,YaM _ hkp⟩,by omega⟩
 ·rw [Ych (Ye _)]
  have:=Ya6 (List.take e) h3
  rwa [YbW,YbW,YaK (by omega)]at this
 ·rw [zaD (r.set e _) e,Yci (by omega),zaD r0 e, ←h4, ←hre]
  have e1:(r.set e ((c*1000000000+r.getD e 0) / k)).getD e 0=(c*1000000000+r.getD e 0) / k:=by rw [Ya,YbB (by omega)];rfl
  rw [e1]
  have h9:=Ya2 (c*1000000000+r.getD e 0) k
  generalize (c*1000000000+r.getD e 0) / k=d at*
  generalize (c*1000000000+r.getD e 0) % k=s at*
  generalize valL (r.drop (e+1))=R at*
  rw [YV,Yay d k,Y9 1000000000 R k]
  generalize R*k=Rk at*
  generalize k*d=kd at*
  omega
theorem rem_done {k z:Nat}{r:List Nat}{c:Nat}(hk:0<k)(h:zmy k (limbs (z*k)) 0 r c):zav r=limbs z:=by
 obtain⟨h1,h2,h3,h4,h5⟩:=h;simp only [Y2,zC]at h4;rw [za5 h2];congr 1;have h6:(valL r*k+c) / k=z:=by rw [h4];exact Nat.mul_div_cancel _ hk
 rw [Yay,Nat.mul_add_div hk,Ycc h5,Y5]at h6;exact h6
theorem norm_len {Y k n:Nat}(hn:n=(limbs Y).length)(hY:Y≠0)(hk:k=1000000000 / ((limbs Y).getD (n - 1) 0+1)):0<k∧k<1000000000∧(limbs (Y*k)).length=n:=by
 have hl:=zcz hY;rw [←hn]at hl;have hlt:=getD_lt (zF Y) (n - 1);have hn0:0<n:=by
  rcases YD n with h0|h0
  ·exfalso;rw [h0]at hn;exact hY (limbs_nil.1 (Yr hn.symm))
  ·exact h0
 have hb:=zdt (zF Y) (n - 1) (by omega);have z:valL ((limbs Y).drop (n - 1+1))=0:=zb9 (by omega);rw [zC,zaD,z,YY,Y5]at hb;generalize (limbs Y).getD (n - 1) 0=t at*;have k0:0<k:=by rw [hk];exact Nat.div_pos (by omega) (by omega)
 have k1:k*(t+1)≤1000000000:=by rw [hk];exact YcG _ _
 have k2:k<1000000000:=by have:k*2≤k*(t+1):=Y3 _ (by omega);omega
 refine⟨k0,k2,Nat.le_antisymm ?_ ?_⟩
 ·apply zaN;have h1:Y*k<(t+1)*1000000000 ^ (n - 1)*k:=YbC hb.2 k0;have h2:(t+1)*1000000000 ^ (n - 1)*k=k*(t+1)*1000000000 ^ (n - 1):=by rw [Yay,Y9]
  have h3:k*(t+1)*1000000000 ^ (n - 1)≤1000000000*1000000000 ^ (n - 1):=YH _ k1;have h4:(1000000000:Nat) ^ n=1000000000*1000000000 ^ (n - 1):=by obtain⟨s,rfl⟩:∃ s,n=s+1:=⟨n - 1,by omega⟩;rw [YP,Ybf,Yay]
  rw [h4];omega
 ·refine Y6 fun hlt2=>?_;have h1:=valL_lt (zF (Y*k));rw [zC]at h1;have h2:1000000000 ^ (limbs (Y*k)).length≤1000000000 ^ (n - 1):=YI (by omega) (by omega);have h3:Y≤Y*k:=Nat.le_mul_of_pos_right _ k0;have h4:1*1000000000 ^ (n - 1)≤t*1000000000 ^ (n - 1):=YH _ (by omega);generalize (1000000000:Nat) ^ (n - 1)=p at*;omega
end Go.Pl
