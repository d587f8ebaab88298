/- Sums, differences and products block by block; no program in sight. -/
import Derived.Test.YtbdlfegfepggnaaGreatDoorS0Types
set_option linter.all false
set_option maxHeartbeats 16000000
set_option maxRecDepth 100000
noncomputable section
namespace Go.Pl
def zA(F:Nat→Nat→Nat→Nat×Nat)(x y:ZN):Nat→ZN×Nat
 |0=>([],0)
 |i+1=>((zA F x y i).1++[(F (x.getD i 0) (y.getD i 0) (zA F x y i).2).1],(F (x.getD i 0) (y.getD i 0) (zA F x y i).2).2)
def zaD(F:Nat→Nat→Nat→Nat×Nat)(x y:ZN)(i:Nat):(zA F x y i).1.length=i:=by
 induction i with
 |zero=>rfl
 |succ i ih=>simp[zA,ih]
def zdf(F:Nat→Nat→Nat→Nat×Nat)(x y:ZN):ZN:=zao (zA F x y (max x.length y.length+1)).1
def zae(x:ZN)(i:Nat):valL (x.take (i+1))=valL (x.take i)+1000000000^i*x.getD i 0:=by
 by_cases h:i<x.length
 ·rw[zbO x i 0 h,zax];have:(x.take i).length=i:=by simp;omega
  rw[this];simp[valL]
 rw[Yp Zo,Yp Zo,zbi _ _ _ Zo,Y4,YS]
def getD_lt {l:ZN}(h:okL l)(i:Nat):l.getD i 0<1000000000:=by
 rw[Ya];by_cases hi:i<l.length
 ·rw[Yb hi];exact h _ (Y1 _)
 rw[Yo Zo];simp
def split_mul(p s:Nat):p*(s%1000000000)+p*1000000000*(s/1000000000)=p*s:=by rw[YY,←YM,Nat.mod_add_div]
def zc7 {l:ZN}{i d:Nat}(h:l.length=i):valL (l++[d])=valL l+1000000000^i*d:=by rw[zax,h];simp[valL]
def zbh(a b c:Nat):Nat×Nat:=((a+b+c)%1000000000,(a+b+c)/1000000000)
def zal(a b c:Nat):Nat×Nat:=((a+1000000000-b-c)%1000000000,1-(a+1000000000-b-c)/1000000000)
def zJ(k:Nat)(a _b c:Nat):Nat×Nat:=((a*k+c)%1000000000,(a*k+c)/1000000000)
def zbR {F:Nat→Nat→Nat→Nat×Nat}{x y:ZN}(hF:∀a b c,(F a b c).1<1000000000)(i:Nat):okL (zA F x y i).1:=by
 induction i with
 |zero=>intro d hd;cases hd
 |succ i ih=>show okL (_++[_]);rw[okL_append];exact⟨ih,fun d hd=>by simp at hd;subst hd;exact hF _ _ _⟩
def zjK(a b c:Nat):(zbh a b c).1<1000000000:=YaL _ Zo
def zdF(a b c:Nat):(zal a b c).1<1000000000:=YaL _ Zo
def zeQ(k a b c:Nat):(zJ k a b c).1<1000000000:=YaL _ Zo
def zjJ(x y:ZN)(i:Nat):valL (zA zbh x y i).1+1000000000^i*(zA zbh x y i).2=valL (x.take i)+valL (y.take i):=by
 induction i with
 |zero=>simp[zA,valL]
 |succ i ih=>rw[zae,zae];show valL (_++[_])+_*(zbh _ _ _).2=_;rw[zc7 (zaD zbh x y i)];show _+_*((x.getD i 0+y.getD i 0+(zA zbh x y i).2)%1000000000)+_*((x.getD i 0+y.getD i 0+(zA zbh x y i).2)/1000000000)=_;rw[YG];generalize (1000000000:Nat)^i=p at*;have h:=split_mul p (x.getD i 0+y.getD i 0+(zA zbh x y i).2);generalize x.getD i 0=a at*;generalize y.getD i 0=b at*;generalize (zA zbh x y i).2=c at*;rw[YM,YM]at h;omega
def zpw {x y:ZN}(hx:okL x)(hy:okL y):zdf zbh x y=limbs (valL x+valL y):=by
 unfold zdf;generalize hN:max x.length y.length=N;rw[zaM (zbR zjK _)];have h:=zjJ x y (N+1);rw[Yp Zo,Yp Zo]at h;have h1:=zY hx;have h2:=zY hy;have h3:(1000000000:Nat)^x.length≤1000000000^N:=YL Zo Zo;have h4:(1000000000:Nat)^y.length≤1000000000^N:=YL Zo Zo;rw[YG]at h;generalize (1000000000:Nat)^N=p at*;have h5:(zA zbh x y (N+1)).2=0:=by
  rcases YR (zA zbh x y (N+1)).2 with h0|h0
  ·exact h0
  have:p*1000000000*1≤p*1000000000*(zA zbh x y (N+1)).2:=Y9 _ h0;omega
 rw[h5,Y4,YS]at h;rw[h]
def zch(x y:ZN)(i:Nat):(zA zal x y i).2≤1:=by
 cases i with
 |zero=>simp[zA]
 |succ i=>show (zal _ _ _).2≤1;unfold zal;omega
def zhd(x y:ZN)(hx:okL x)(hy:okL y)(i:Nat):valL (zA zal x y i).1+valL (y.take i)=valL (x.take i)+1000000000^i*(zA zal x y i).2:=by
 induction i with
 |zero=>simp[zA,valL]
 |succ i ih=>
  rw[zae,zae];have hc:=zch x y i;have ha:=getD_lt hx i;have hb:=getD_lt hy i;show valL (_++[_])+_=_+_*(zal _ _ _).2;rw[zc7 (zaD zal x y i)];show _+_*((x.getD i 0+1000000000-y.getD i 0-(zA zal x y i).2)%1000000000)+_=_+_*(1-(x.getD i 0+1000000000-y.getD i 0-(zA zal x y i).2)/1000000000);rw[YG];generalize (1000000000:Nat)^i=p at*;generalize x.getD i 0=a at*;generalize y.getD i 0=b at*;generalize (zA zal x y i).2=c at*;by_cases h:a+1000000000-b-c<1000000000
  ·have e1:(a+1000000000-b-c)%1000000000=a+1000000000-b-c:=Ybi h;have e2:(a+1000000000-b-c)/1000000000=0:=Yb4 h;rw[e1,e2];have h2:p*(a+1000000000-b-c)+p*b+p*c=p*a+p*1000000000:=by rw[←YM,←YM,←YM];congr 1;omega
   simp only[YbW,Yas];omega
  have e1:(a+1000000000-b-c)%1000000000=a-b-c:=Zo;have e2:(a+1000000000-b-c)/1000000000=1:=Zo;rw[e1,e2];have h2:p*(a-b-c)+p*b+p*c=p*a:=by rw[←YM,←YM];congr 1;omega
  simp only[YaK,Y4];omega
def zlN {x y:ZN}(hx:okL x)(hy:okL y)(hle:valL y≤valL x):zdf zal x y=limbs (valL x-valL y):=by
 unfold zdf;generalize hN:max x.length y.length=N;rw[zaM (zbR zdF _)];have h:=zhd x y hx hy (N+1);rw[Yp Zo,Yp Zo]at h;have h6:=zY (zbR (x:=x) (y:=y) zdF (N+1));rw[zaD]at h6;have h7:=zch x y (N+1);generalize (1000000000:Nat)^(N+1)=p at*;have h5:(zA zal x y (N+1)).2=0:=by
  rcases YR (zA zal x y (N+1)).2 with h0|h0
  ·exact h0
  have:(zA zal x y (N+1)).2=1:=Zo;rw[this,Yas]at h;omega
 rw[h5,Y4,YS]at h;congr 1;omega
def zgO {k:Nat}(hk:k<1000000000)(x:ZN)(hx:okL x)(y:ZN)(i:Nat):(zA (zJ k) x y i).2<1000000000:=by
 induction i with
 |zero=>simp[zA]
 |succ i ih=>have ha:=getD_lt hx i;have:x.getD i 0*k≤999999999*999999999:=Ybd Zo Zo;show (x.getD i 0*k+(zA (zJ k) x y i).2)/1000000000<1000000000;generalize x.getD i 0*k=q at*;omega
def zgN(k:Nat)(x y:ZN)(i:Nat):valL (zA (zJ k) x y i).1+1000000000^i*(zA (zJ k) x y i).2=valL (x.take i)*k:=by
 induction i with
 |zero=>simp[zA,valL]
 |succ i ih=>rw[zae];show valL ((zA (zJ k) x y i).1++[(zJ k (x.getD i 0) (y.getD i 0) (zA (zJ k) x y i).2).1])+_*(zJ k (x.getD i 0) (y.getD i 0) (zA (zJ k) x y i).2).2=_;rw[zc7 (zaD (zJ k) x y i)];show _+_*((x.getD i 0*k+(zA (zJ k) x y i).2)%1000000000)+_*((x.getD i 0*k+(zA (zJ k) x y i).2)/1000000000)=_;rw[YG,Y5];generalize (1000000000:Nat)^i=p at*;have h:=split_mul p (x.getD i 0*k+(zA (zJ k) x y i).2);rw[YM,←YY]at h;generalize p*x.getD i 0*k=q at*;omega
def zgM {k:Nat}{x:ZN}(hk:k<1000000000)(hx:okL x):zdf (zJ k) x []=limbs (valL x*k):=by
 unfold zdf;generalize hN:max x.length ([]:ZN).length=N;have hN':x.length≤N:=Zo;rw[zaM (zbR (zeQ k) _)];have h:=zgN k x [] (N+1);rw[Yp Zo]at h;have h1:=zY hx;have h3:(1000000000:Nat)^x.length≤1000000000^N:=YL Zo Zo;have h5:(zA (zJ k) x [] (N+1)).2=0:=by
  rcases YR (zA (zJ k) x [] (N+1)).2 with h0|h0
  ·exact h0
  exfalso;have h8:valL x*k<1000000000^(N+1):=by rw[YG];exact Yu (Ya3 (Yu h1 h3) (YbY hk) Zo) (Yc _)
  have h9:1000000000^(N+1)*1≤1000000000^(N+1)*(zA (zJ k) x [] (N+1)).2:=Y9 _ h0;generalize (1000000000:Nat)^(N+1)=p at*;omega
 rw[h5,Y4,YS]at h;rw[h]
def zaI {x y:Nat}(h:(limbs x).length<(limbs y).length):x<y:=by
 rcases YaJ x y with h1|h1
 ·exact h1
 have h2:=zY (zI x);rw[zD]at h2;have:=zaC (Ybb h1 h2);omega
def zba(l:ZN)(k:Nat)(hk:k<l.length):valL l=valL (l.take k)+1000000000^k*(l.getD k 0+1000000000*valL (l.drop (k+1))):=by
 have e:l=l.take k++(l.getD k 0::l.drop (k+1)):=by
  conv=>lhs;rw[←Yaf k l]
  congr 1;rw[Yaw hk,Ya,Yb hk];rfl
 have h:(l.take k).length=k:=by simp;omega
 conv=>lhs;rw[e]
 rw[zax,h,valL]
def zfm {l r:ZN}{k:Nat}(ho:okL l)(hlen:l.length=r.length)(hk:k<l.length)(hd:∀j,k<j→l.getD j 0=r.getD j 0)(h:l.getD k 0<r.getD k 0):valL l<valL r:=by
 have e:l.drop (k+1)=r.drop (k+1):=by
  apply YaI;intro i;rw[Y8,Y8];have:=hd (k+1+i) Zo;rw[Ya,Ya]at this;by_cases hi:k+1+i<l.length
  ·rw[Yb hi,Yb Zo]at this ⊢;simpa using this
  rw[Yo Zo,Yo Zo]
 rw[zba l k hk,zba r k Zo,e];have h1:valL (l.take k)<1000000000^k:=by
  have:=zY (l:=l.take k) (fun d hd=>ho d (Ybp hd));have h2:(l.take k).length=k:=by simp;omega
  rwa [h2]at this
 generalize (1000000000:Nat)^k=p at*;generalize valL (r.drop (k+1))=q at*;have h3:p*(l.getD k 0+1000000000*q)+p≤p*(r.getD k 0+1000000000*q):=by rw[←Nat.mul_succ];exact Y9 _ Zo
 omega
def zme {l r:ZN}(hlen:l.length=r.length)(hd:∀j,l.getD j 0=r.getD j 0):l=r:=by
 apply YaI;intro i;have:=hd i;rw[Ya,Ya]at this;by_cases hi:i<l.length
 ·rw[Yb hi,Yb Zo]at this ⊢;simpa using this
 rw[Yo Zo,Yo Zo]
def zpI {n k:Nat}(h:n<10^k):(limbs n).length≤k:=zaC (Yu h (Nat.pow_le_pow_left Zo k))
def zbr {a:ZL}{k:Nat}(hd:a.all zcl=true)(hl:a.length≤k):(limbs (valD a)).length≤k:=
 zpI (Yu (zje hd) (YL Zo hl))
def zlS {x y k:Nat}(hx:(limbs x).length≤k)(hy:(limbs y).length≤k):(limbs (x+y)).length≤k+1:=by apply zaC;have h1:=zY (zI x);have h2:=zY (zI y);rw[zD]at h1 h2;have h3:(1000000000:Nat)^(limbs x).length≤1000000000^k:=YL Zo hx;have h4:(1000000000:Nat)^(limbs y).length≤1000000000^k:=YL Zo hy;rw[YG];generalize (1000000000:Nat)^k=p at*;omega
def zlQ {x y k:Nat}(hx:(limbs x).length≤k):(limbs (x-y)).length≤k:=by apply zaC;have h1:=zY (zI x);rw[zD]at h1;have h3:(1000000000:Nat)^(limbs x).length≤1000000000^k:=YL Zo hx;omega
def zlR {x y j k:Nat}(hx:(limbs x).length≤j)(hy:(limbs y).length≤k):(limbs (x*y)).length≤j+k:=by apply zaC;have h1:=zY (zI x);have h2:=zY (zI y);rw[zD]at h1 h2;have h3:(1000000000:Nat)^(limbs x).length≤1000000000^j:=YL Zo hx;have h4:(1000000000:Nat)^(limbs y).length≤1000000000^k:=YL Zo hy;rw[YbP];exact Ya3 (Yu h1 h3) (YbY (Yu h2 h4)) (Ycg Zo)
end Go.Pl

namespace Go.Proofs
open Tryz Go.Ab Go.Pl
def cmpI(a b:Int):Int:=if a<b then -1 else if b<a then 1 else 0
def zr5(a:Nat):PCall prog 195 [.int .u64 a] (.ret (.bool false)):=by refine Xa (rs:=[.tmp 2]) [0,2] [] mixed (zh) (zg) call195 func195 rfl ntmps195 rfl ?_;simp only[go_sem]
def zqn:ZV:=zL (fun a:Nat=>[.int .u64 a]) (fun _=>True) fun _=>.ret (.bool false)
def zoA(a:Nat):zqn [.int .u64 a]=some (.ret (.bool false)):=zo (pat:=fun a:Nat=>[.int .u64 a]) (fun x y h=>by simp at h;omega) a trivial
def zoz:ZC zqn 195:=zn fun a _=>zr5 a
attribute [go_sem] zoA
def zmn(a b:Nat):PCall prog 184 [.int .u64 a,.int .u64 b] (.ret (.int .i64 (cmpI a b))):=by
 refine Xa (rs:=[.tmp 4]) [0,1,4,5,6,11,12,13,16,19] [] mixed (zf zoz zh) (zg) call184 func184 rfl ntmps184 rfl ?_;simp only[go_sem];refine Xc (fun h1=>?_) (fun h1=>?_)
 ·simp only[go_sem];simp[cmpI,h1]
 simp only[go_sem];refine Xc (fun h2=>?_) (fun h2=>?_)
 ·simp only[go_sem];simp[cmpI,h1,h2]
 simp only[go_sem];simp[cmpI,h1,h2]
def ziY:ZV:=zL (fun p:Nat×Nat=>[.int .u64 p.1,.int .u64 p.2]) (fun _=>True) fun p=>.ret (.int .i64 (cmpI p.1 p.2))
def zkB(a b:Nat):ziY [.int .u64 a,.int .u64 b]=some (.ret (.int .i64 (cmpI a b))):=zo (pat:=fun p:Nat×Nat=>[.int .u64 p.1,.int .u64 p.2]) (fun x y h=>by simp at h;exact YaC Zo Zo) (a,b) trivial
def zkA:ZC ziY 184:=zn fun p _=>zmn p.1 p.2
attribute [go_sem] zkB
def zv0(a:Int):PCall prog 194 [.int .i64 a] (.ret (.bool false)):=by refine Xa (rs:=[.tmp 2]) [0,2] [] mixed (zh) (zg) call194 func194 rfl ntmps194 rfl ?_;simp only[go_sem]
def zxP:ZV:=zL (fun a:Int=>[.int .i64 a]) (fun _=>True) fun _=>.ret (.bool false)
def zs6(a:Int):zxP [.int .i64 a]=some (.ret (.bool false)):=zo (pat:=fun a:Int=>[.int .i64 a]) (fun x y h=>by simpa using h) a trivial
def zs5:ZC zxP 194:=zn fun a _=>zv0 a
attribute [go_sem] zs6
def zom(a b:Int):PCall prog 183 [.int .i64 a,.int .i64 b] (.ret (.int .i64 (cmpI a b))):=by
 refine Xa (rs:=[.tmp 4]) [0,1,4,5,6,11,12,13,16,19] [] mixed (zf zs5 zh) (zg) call183 func183 rfl ntmps183 rfl ?_;simp only[go_sem];refine Xc (fun h1=>?_) (fun h1=>?_)
 ·simp only[go_sem];simp[cmpI,h1]
 simp only[go_sem];refine Xc (fun h2=>?_) (fun h2=>?_)
 ·simp only[go_sem];simp[cmpI,h1,h2]
 simp only[go_sem];simp[cmpI,h1,h2]
def zmz:ZV:=zL (fun p:Int×Int=>[.int .i64 p.1,.int .i64 p.2]) (fun _=>True) fun p=>.ret (.int .i64 (cmpI p.1 p.2))
def zmy(a b:Int):zmz [.int .i64 a,.int .i64 b]=some (.ret (.int .i64 (cmpI a b))):=zo (pat:=fun p:Int×Int=>[.int .i64 p.1,.int .i64 p.2]) (fun x y h=>by simp at h;exact YaC h.1 h.2) (a,b) trivial
def zmx:ZC zmz 183:=zn fun p _=>zom p.1 p.2
attribute [go_sem] zmy
def plus1_ok(a b c:Nat)(ha:a<1000000000)(hb:b<1000000000)(hc:c≤1):PCall prog 182 [.int .u64 a,.int .u64 b,.int .u64 c] (.ret (.tup [.int .u64 ((a+b+c)%1000000000:Nat),.int .u64 ((a+b+c)/1000000000:Nat)])):=by refine Xa (rs:=[.tmp 6,.tmp 7]) [0,1,2,6,7,8] [] mixed (zh) (zg) call182 func182 rfl ntmps182 rfl ?_;simp(disch:=try exact Zq)only[go_sem];omega
def zvq(a b c:Nat)(ha:a<1000000000)(hb:b<1000000000)(hc:c≤1):PCall prog 189 [.int .u64 a,.int .u64 b,.int .u64 c] (.ret (.tup [.int .u64 ((a+1000000000-b-c)%1000000000:Nat),.int .u64 (1-(a+1000000000-b-c)/1000000000:Nat)])):=by refine Xa (rs:=[.tmp 6,.tmp 7]) [0,1,2,6,7,8] [] mixed (zh) (zg) call189 func189 rfl ntmps189 rfl ?_;simp(disch:=try exact Zq)only[go_sem];omega
def zrd(a b c k:Nat)(ha:a<1000000000)(hk:k<1000000000)(hc:c<1000000000):PCall prog 202 [.int .u64 a,.int .u64 b,.int .u64 c,.fp [.int .u64 k]] (.ret (.tup [.int .u64 ((a*k+c)%1000000000:Nat),.int .u64 ((a*k+c)/1000000000:Nat)])):=by refine Xa (rs:=[.tmp 7,.tmp 8]) [0,2,3,7,8,9] [] mixed (zh) (zg) call202 func202 rfl ntmps202 rfl ?_;have hm:(a:Int)*(k:Int)=((a*k:Nat):Int):=Zs;have hb:a*k≤999999999*999999999:=Ybd Zo Zo;generalize a*k=p at*;simp(disch:=try exact Zq)only[go_sem,hm];omega
def zwz(Γ0:FuncId→ZA→Option PR)(hΓ0:zcY prog Γ0)(fid:FuncId)(caps:ZA)(hfid:(fid==156)=false)(hcaps:nzs caps=caps)(hrefs:zck caps=[])(hpure:∀x∈caps,Pure x)(F:Nat→Nat→Nat→Nat×Nat)(Q:Nat→Prop)(hQ0:Q 0) (hF:∀a b c:Nat,a<1000000000→b<1000000000→Q c→Γ0 fid (.int .u64 a::.int .u64 b::.int .u64 c::caps)=some (.ret (.tup [.int .u64 (F a b c).1,.int .u64 (F a b c).2]))∧Q (F a b c).2) (x y:ZN) (hx:okL x) (hy:okL y) (hlx:x.length≤1000) (hly:y.length≤1000):PCall prog 181 [.fs (nats .u64 x) x.length,.fs (nats .u64 y) y.length,.fn fid caps] (.ret (.fs (nats .u64 (zdf F x y)) (zdf F x y).length)):=by
 have getlt:∀ {l:ZN},okL l→∀i,l.getD i 0<1000000000:=fun {l} h i=>by
  rw[Ya];by_cases hi:i<l.length
  ·rw[Yb hi];exact h _ (Y1 _)
  rw[Yo Zo];simp
 have hpureP:(∀x∈caps,Ab.Pure x)↔True:=⟨fun _=>trivial,fun _=>hpure⟩;refine PCall.walk (rs:=[.tmp 6]) [0,1,2,6,7,8,9,10,11,12,18,19,20,25,33] [] mixed (zf zbT hΓ0) (zg) zxg func181 rfl ntmps181 rfl Zk Zs (by simp[push_cast,hpureP]) ?_;have hmx:maxI (x.length:Int) (y.length:Int)=((max x.length y.length:Nat):Int):=by unfold maxI;split<;>omega
 have hmb:max x.length y.length≤1000:=Zo;generalize hN:max x.length y.length=N at*;simp(disch:=try exact Zq)only[go_sem,hmx];have hQ:∀i,Q (zA F x y i).2:=by
  intro i;induction i with
  |zero=>exact hQ0
  |succ i ih=>exact(hF _ _ _ (getlt hx i) (getlt hy i) ih).2
 refine AXs.loop mixed (zf zbT hΓ0) (zg) (fun i:Nat=>[(0,.fs (nats .u64 x) x.length),(1,.fs (nats .u64 y) y.length),(2,.fn fid caps),(7,bkV (zA F x y i).1),(8,.int .u64 (zA F x y i).2),(18,.int .i64 (N+1:Int)),(19,.int .i64 i)])
  (fun i=>⟨bkBs (zA F x y i).1,bkN (zA F x y i).1⟩) (fun i=>i≤N+1) (fun i=>N+1-i) 0 Zk (Yk _) (Xb [] rfl rfl ?_ ?_) ?_
 ·simp only[go_sem,zA,bkV];simpa using zB hpure
 ·simp only[go_sem,zA,bkBs]
 intro i hi;simp(disch:=try exact Zq)only[go_sem];refine Xc (fun h1=>?_) (fun h1=>?_)
 ·have hFi:=(hF (x.getD i 0) (y.getD i 0) (zA F x y i).2 (getlt hx i) (getlt hy i) (hQ i)).1;have hsucc:zA F x y (i+1)=((zA F x y i).1++[(F (x.getD i 0) (y.getD i 0) (zA F x y i).2).1],(F (x.getD i 0) (y.getD i 0) (zA F x y i).2).2):=rfl;have hlen:=zaD F x y i;generalize F (x.getD i 0) (y.getD i 0) (zA F x y i).2=r at hFi hsucc;generalize zA F x y i=q at*;obtain⟨q1,q2⟩:=q;dsimp only at hFi hsucc hlen ⊢;have zx:¬(i:Int)<x.length→x.getD i 0=0:=fun h=>zbi _ _ _ Zo;have zy:¬(i:Int)<y.length→y.getD i 0=0:=fun h=>zbi _ _ _ Zo;by_cases c1:(i:Int)<x.length<;>by_cases c2:(i:Int)<y.length;all_goals
   try rw[zx c1]at hFi
   try rw[zy c2]at hFi
   try simp only[Int.natCast_zero]at hFi
   rcases q1 with _|⟨d,l⟩
   ·simp(disch:=try exact Zq)only[go_sem,bkV,bkBs,bkN,c1,c2,hfid,hcaps,hrefs,hFi];repeat refine And.intro Zo ?_
    refine zi (i+1) Zo Zo (Xb [(0,1)] rfl (by rw[hsucc];rfl) ?_ ?_)
    ·rw[hsucc];simp only[go_sem,bkV,bkBs,bkN];simpa using zB hpure
    rw[hsucc];simp only[go_sem,bkV,bkBs,bkN];simp[nats]
   ·have hll:l.length+1=i:=hlen;simp(disch:=try exact Zq)only[go_sem,bkV,bkBs,bkN,c1,c2,hfid,hcaps,hrefs,hFi];repeat refine And.intro Zo ?_
    refine zi (i+1) Zo Zo (Xb [(0,2)] rfl (by rw[hsucc];rfl) ?_ ?_)
    ·rw[hsucc];simp only[go_sem,bkV,bkBs,bkN];simpa using zB hpure
    rw[hsucc];simp only[go_sem,bkV,bkBs,bkN];simp[nats]
 have hie:i=N+1:=Zo;subst hie;have hlen:=zaD F x y (N+1);have he:zdf F x y=zao (zA F x y (N+1)).1:=by unfold zdf;rw[hN]
 rw[he];generalize zA F x y (N+1)=q at*;obtain⟨q1,q2⟩:=q;dsimp only at hlen ⊢;rcases q1 with _|⟨d,l⟩
 ·simp at hlen
 have hll:l.length+1=N+1:=hlen;simp only[go_sem,bkV,bkBs,bkN];refine AXa.fz [0] rfl rfl rfl (env':=[(7,.fs (nats .u64 (d::l)) (d::l).length)]) (bs':=[]) (n':=1) ?_ ?_ ?_
 ·simp only[go_sem];right;exact FrzF.slp Zs rfl rfl (by simp[zb9]) (by simp[zcd]) (zaG _ _)
 ·simp only[go_sem]
 refine AXa.go mixed (zf zbT hΓ0) (zg) Zk ?_;simp(disch:=try exact Zq)only[go_sem]
end Go.Proofs
