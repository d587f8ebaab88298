import Derived.Test.YtbdlfegfepggnaaGreatDoorS0Types
set_option linter.all false
set_option maxHeartbeats 16000000
set_option maxRecDepth 100000
noncomputable section
namespace Go.Proofs
open Tryz Go.Ab Go.Pl
set_option pp.maxSteps 40000 in
def valid_ok(a:ZL):PCall prog 153 [.str a] (.ret (.bool (zH a))):=by
 refine Xc (rs:=[.tmp 2]) [0,2,3,20,22,23,24,35] [] mixed (zh) (zf) call153 func153 rfl ntmps153 rfl ?_;simp only[go_sem];refine⟨by simp_all;omega,by simp_all,AXc.intro (fun h1=>?_) (fun h1=>?_)⟩
 ·simp only[go_sem];simp only[zH];by_cases h0:a=[]
  ·simp[h0]
  by_cases h2:1000<a.length
  ·simp[Nat.not_le.2 h2]
  simp[h0,h2]at h1;have h3:¬a.length≤1:=Zo;simp[h3,h1];omega
 simp only[go_sem];refine AXs.loop mixed zh zf (fun i:Nat=>[(0,.str a),(2,.bool false),(22,.int .i64 a.length),(23,.int .i64 i)]) (fun _=>⟨[],0⟩) (fun i=>i≤a.length∧∀j,j<i→zaT (a.getD j 0)=true) (fun i=>a.length-i) 0 Zk Zs (Xa [] rfl rfl ?_ ?_) ?_
 ·simp only[go_sem]
 ·simp only[go_sem]
 rintro i ⟨hi,hd⟩;simp only[go_sem];refine Xb (fun h2=>?_) (fun h2=>?_)
 ·have h2':i<a.length:=Zo;have h3:a.length≤1000:=by simp at h1;omega
  simp only[go_sem];refine⟨Zo,by simp;omega,AXc.intro (fun h4=>?_) (fun h4=>?_)⟩
  ·simp only[go_sem];symm;simp only[zH,YbZ];right;rw[Bool.eq_false_iff];intro hall;have:=all_getD.1 hall i h2';simp[zaT]at this h4;omega
  simp(disch:=try exact Zq)only[go_sem];refine zi (i+1) ⟨Zo,fun j hj=>?_⟩ Zo (Xa [] rfl rfl ?_ ?_)
  ·by_cases hji:j=i
   ·subst hji;simp[zaT]at h4 ⊢;omega
   exact hd j Zo
  ·simp only[go_sem];simp
  simp only[go_sem]
 simp only[go_sem];refine AXa.go mixed (zh) (zf) Zk ?_;simp only[go_sem];symm;have hie:i=a.length:=Zo;subst hie;have:=all_getD.2 hd;simp[zH,this];simp at h1;refine⟨⟨h1.1.1,Zo⟩,?_⟩;by_cases h5:a.length≤1
 ·exact .inl h5
 exact .inr Zo
def trim_ok(l:ZN)(hl:l.length≤1000000):PCall prog 156 [.fs (nats .u64 l) l.length] (.ret (.fs (nats .u64 (zaw l)) (zaw l).length)):=by
 refine Xc (rs:=[.tmp 2]) [0,2,14] [] mixed (zh) (zf) zzK func156 rfl ntmps156 rfl ?_;simp only[go_sem];refine AXs.loop mixed zh zf (fun n:Nat=>[(0,.fs (nats .u64 (l.take n)) n)]) (fun _=>⟨[],0⟩) (fun n=>n≤l.length∧∀j,n≤j→l.getD j 0=0) (fun n=>n) l.length Zk
  ⟨Yc _,fun j hj=>by simp[Ya,Yr hj]⟩ (Xa [] rfl rfl ?_ ?_) ?_
 ·simp only[go_sem];simp
 ·simp only[go_sem]
 rintro n ⟨hn,hz⟩;rcases YT n with rfl|hp
 ·simp only[go_sem];refine AXa.go mixed zh zf Zk ?_;simp only[go_sem];have:=zdc (Yk l.length) hz (.inl rfl);simp[this,nats]
 have hd:decide (0<(n:Int))=true:=by simp;omega
 simp(disch:=try exact Zq)only[go_sem,hd];refine⟨Zo,Zo,Xb (fun h1=>?_) (fun h1=>?_)⟩
 ·simp(disch:=try exact Zq)only[go_sem];refine⟨Zo,zi (n-1) ⟨Zo,fun j hj=>?_⟩ Zo (Xa [] rfl rfl ?_ ?_)⟩
  ·by_cases hjn:j=n-1
   ·subst hjn;omega
   exact hz j Zo
  ·simp only[go_sem];rw[Ya0 Zo]
  simp only[go_sem]
 simp only[go_sem];refine AXa.go mixed zh zf Zk ?_;simp only[go_sem];have h2:=zdc hn hz (.inr Zo);rw[h2];simp;omega
def cValid:ZV:=zC (fun a:ZL=>[.str a]) (fun _=>True) fun a=>.ret (.bool (zH a))
def zzL(a:ZL):cValid [.str a]=some (.ret (.bool (zH a))):=zo (pat:=fun a:ZL=>[.str a]) (fun x y h=>by simpa using h) a trivial
def zdt:ZC cValid 153:=zn fun a _=>valid_ok a
def cTrim:ZV:=zC (fun l:ZN=>[.fs (nats .u64 l) l.length]) (fun l=>l.length≤1000000) fun l=>.ret (.fs (nats .u64 (zaw l)) (zaw l).length)
def zr5(l:ZN)(n:Nat)(hn:n=l.length)(h:l.length≤1000000):cTrim [.fs (nats .u64 l) n]=some (.ret (.fs (nats .u64 (zaw l)) (zaw l).length)):=by subst hn;exact zo (pat:=fun l:ZN=>[.fs (nats .u64 l) l.length]) (fun x y h=>by simp at h;exact zaI h.1) l h
def zzM:cTrim [.fs [] 0]=some (.ret (.fs [] 0)):=zr5 [] 0 rfl Zs
def zcc:ZC cTrim 156:=zn trim_ok
attribute [go_sem] zzL zr5 zzM
def okL_snoc {l:ZN}{d:Nat}(h:okL l)(hd:d<1000000000):okL (l++[d]):=okL_append.2 ⟨h,fun x hx=>by simp at hx;omega⟩
def bkV(l:ZN):V:=match l with|[]=>.nilS|_=>.sl 0 0 l.length 1 none
def bkBs(l:ZN):ZH:=match l with|[]=>[]|_=>[(0,.cells (nats .u64 l))]
def bkN(l:ZN):Nat:=match l with|[]=>0|_=>1
def bk_v(l:ZN):Rn (piL []) (· <bkN l) (bkV l) (bkV l):=by cases l<;>simp only[bkV,bkN,go_sem]<;>simp
def bk_h(l:ZN):subH (piL []) (bkN l) (bkBs l) (bkBs l):=by cases l<;>simp only[bkBs,bkN,go_sem]<;>simp
def bk_k(l:ZN):piOK [] 0 (keysB (bkBs l))=true:=by cases l<;>rfl
def zAL(a:ZL)(hd:a.all zaT=true)(hl:a.length≤1000):PCall prog 154 [.str a] (.ret (.fs (nats .u64 (limbs (valD a))) (limbs (valD a)).length)):=by
 refine Xc (rs:=[.tmp 2]) [0,2,3,4,5,6,9,18] [] mixed (zg zcc zh) (zf) call154 func154 rfl ntmps154 rfl ?_;simp only[go_sem];refine AXs.loop mixed (zg zcc zh) zf (fun(p:ZN×Nat)=>[(0,.str (a.take p.2)),(3,bkV p.1)]) (fun p=>⟨bkBs p.1,bkN p.1⟩) (fun p=>p.2≤a.length∧okL p.1∧p.1.length+p.2≤1000∧valL p.1+1000000000^p.1.length*valD (a.take p.2)=valD a) (fun p=>p.2) ([],a.length) Zk
  ⟨Yc _,(show okL []from fun d hd=>nomatch hd),by simpa using hl,by simp[valL]⟩ (Xa [] rfl rfl ?_ ?_) ?_
 ·simp only[go_sem,Ym,bkV]
 ·simp only[go_sem,bkBs]
 rintro⟨l,m⟩ ⟨hm,ho,hlm,hv⟩;dsimp only at hm ho hlm hv ⊢;have hmin:min m a.length=m:=Ya0 hm;simp(disch:=try exact Zq)only[go_sem,hmin];refine Xb (fun h1=>?_) (fun h1=>?_)
 ·have hc:maxI 0 ((m:Int)-9)=((m-9:Nat):Int):=by unfold maxI;split<;>omega
  simp(disch:=try exact Zq)only[go_sem,hmin,hc];refine AXs.loop mixed (zg zcc zh) zf (fun i:Nat=>[(0,.str (a.take m)),(3,bkV l),(4,.int .i64 (m-9:Nat)),(5,.int .u64 (valD ((a.take i).drop (m-9)):Nat)),(6,.int .i64 i)]) (fun _=>⟨bkBs l,bkN l⟩) (fun i=>m-9≤i∧i≤m) (fun i=>m-i) (m-9) Zk
   ⟨Yc _,Zo⟩ (Xa [] rfl (bk_k l) ?_ (bk_h l)) ?_
  ·simp only[go_sem];refine⟨bk_v l,?_⟩;simp[valD]
  rintro i ⟨hi1,hi2⟩;simp(disch:=try exact Zq)only[go_sem,hmin];refine Xb (fun h2=>?_) (fun h2=>?_)
  ·have him:i<m:=Zo;have hia:i<a.length:=Zo;have hg:(a.take m).getD i 0=a.getD i 0:=getD_take _ _ _ _ him;have hdi:=zbG (all_getD.1 hd i hia);have hv2:valD ((a.take (i+1)).drop (m-9))=10*valD ((a.take i).drop (m-9))+((a.getD i 0).toNat-48):=by rw[zcb a i 0 hia,List.drop_append_of_le_length (by simp;omega),zbR]
   have hlt:valD ((a.take i).drop (m-9))<100000000:=by have h3:((a.take i).drop (m-9)).all zaT=true:=Yo.2 fun x hx=>Yo.1 hd x (Ya9 (Ybi hx));have h4:=zhi h3;have h5:10^((a.take i).drop (m-9)).length≤10^8:=YL Zo (by simp;omega);omega
   simp(disch:=try exact Zq)only[go_sem,hmin,hg];refine⟨Zo,zi (i+1) ⟨Zo,Zo⟩ Zo (Xa [] rfl (bk_k l) ?_ (bk_h l))⟩;simp only[go_sem];refine⟨bk_v l,?_⟩;rw[hv2];simp only[V.int.injEq,Yaf];omega
  have him:i=m:=Zo;subst him;have hs:(a.take i).all zaT=true:=Yo.2 fun x hx=>Yo.1 hd x (Ya9 hx);have hlt:valD ((a.take i).drop (i-9))<1000000000:=by have h3:((a.take i).drop (i-9)).all zaT=true:=Yo.2 fun x hx=>Yo.1 hs x (Ybi hx);have h4:=zhi h3;have h5:10^((a.take i).drop (i-9)).length≤10^9:=YL Zo (by simp;omega);omega
  have hnx:=bk_next hm hv;have hinc:i-9<i:=Zo;have hon:okL (l++[valD ((a.take i).drop (i-9))]):=okL_snoc ho hlt;have hmi:min (i-9) i=i-9:=Zo;simp only[go_sem];refine AXa.go mixed (zg zcc zh) (zf) Zk ?_;rcases l with _|⟨d,l⟩
  ·simp(disch:=try exact Zq)only[go_sem,hmin,bkV,bkBs,bkN];refine⟨Zo,zi ([]++[valD ((a.take i).drop (i-9))],i-9) ⟨Zo,hon,by simp;omega,hnx⟩ hinc (Xa [(0,1)] rfl rfl ?_ ?_)⟩
   ·simp only[go_sem,hmi]
   simp only[go_sem];simp[nats]
  simp(disch:=try exact Zq)only[go_sem,hmin,bkV,bkBs,bkN,zQ];have hll:l.length+1+i≤1000:=hlm;refine⟨Zo,Zo,zi ((d::l)++[valD ((a.take i).drop (i-9))],i-9) ⟨Zo,hon,by simp at hlm ⊢;omega,hnx⟩ hinc (Xa [(0,2)] rfl rfl ?_ ?_)⟩
  ·simp only[go_sem,hmi];simp
  simp only[go_sem];simp[nats]
 have hm0:m=0:=Zo;subst hm0;rcases l with _|⟨d,l⟩
 ·simp only[go_sem,bkV,bkBs];refine AXa.go mixed (zg zcc zh) zf Zk ?_;simp only[go_sem];rw[zru ho hv];simp[zaw,nats]
 simp only[go_sem,bkV,bkBs,bkN];refine AXa.fz [0] rfl rfl rfl (env':=[(3,.fs (nats .u64 (d::l)) (d::l).length)]) (bs':=[]) (n':=1) ?_ ?_ ?_
 ·simp only[go_sem];right;exact FrzF.slp Zs rfl rfl (by simp[zQ]) (by simp[zbT]) (zaH _ _)
 ·simp only[go_sem]
 refine AXa.go mixed (zg zcc zh) zf Zk ?_;simp(disch:=try exact Zq)only[go_sem];rw[zru ho hv];exact⟨rfl,rfl⟩
end Go.Proofs

namespace Go.Pl
def eachR(F:Nat→Nat→Nat→Nat×Nat)(x y:ZN):Nat→ZN×Nat
 |0=>([],0)
 |i+1=>((eachR F x y i).1++[(F (x.getD i 0) (y.getD i 0) (eachR F x y i).2).1],(F (x.getD i 0) (y.getD i 0) (eachR F x y i).2).2)
def eachR_len(F:Nat→Nat→Nat→Nat×Nat)(x y:ZN)(i:Nat):(eachR F x y i).1.length=i:=by
 induction i with
 |zero=>rfl
 |succ i ih=>simp[eachR,ih]
def zdN(F:Nat→Nat→Nat→Nat×Nat)(x y:ZN):ZN:=zaw (eachR F x y (max x.length y.length+1)).1
def zai(x:ZN)(i:Nat):valL (x.take (i+1))=valL (x.take i)+1000000000^i*x.getD i 0:=by
 by_cases h:i<x.length
 ·rw[zcb x i 0 h,zaG];have:(x.take i).length=i:=by simp;omega
  rw[this];simp[valL]
 rw[Yl Zo,Yl Zo,za2 _ _ _ Zo,Y9,Y3]
def getD_lt {l:ZN}(h:okL l)(i:Nat):l.getD i 0<1000000000:=by
 rw[Ya];by_cases hi:i<l.length
 ·rw[Yb hi];exact h _ (Y6 _)
 rw[Yr Zo];simp
def split_mul(p s:Nat):p*(s%1000000000)+p*1000000000*(s/1000000000)=p*s:=by rw[Yad,←YP,Nat.mod_add_div]
def zdD {l:ZN}{i d:Nat}(h:l.length=i):valL (l++[d])=valL l+1000000000^i*d:=by rw[zaG,h];simp[valL]
def plusF(a b c:Nat):Nat×Nat:=((a+b+c)%1000000000,(a+b+c)/1000000000)
def minusF(a b c:Nat):Nat×Nat:=((a+1000000000-b-c)%1000000000,1-(a+1000000000-b-c)/1000000000)
def zK(k:Nat)(a _b c:Nat):Nat×Nat:=((a*k+c)%1000000000,(a*k+c)/1000000000)
def okL_each {F:Nat→Nat→Nat→Nat×Nat}{x y:ZN}(hF:∀a b c,(F a b c).1<1000000000)(i:Nat):okL (eachR F x y i).1:=by
 induction i with
 |zero=>intro d hd;cases hd
 |succ i ih=>show okL (_++[_]);rw[okL_append];exact⟨ih,fun d hd=>by simp at hd;subst hd;exact hF _ _ _⟩
def plusF_ok(a b c:Nat):(plusF a b c).1<1000000000:=YaJ _ Zo
def minusF_ok(a b c:Nat):(minusF a b c).1<1000000000:=YaJ _ Zo
def zft(k a b c:Nat):(zK k a b c).1<1000000000:=YaJ _ Zo
def plus_inv(x y:ZN)(i:Nat):valL (eachR plusF x y i).1+1000000000^i*(eachR plusF x y i).2=valL (x.take i)+valL (y.take i):=by
 induction i with
 |zero=>simp[eachR,valL]
 |succ i ih=>rw[zai,zai];show valL (_++[_])+_*(plusF _ _ _).2=_;rw[zdD (eachR_len plusF x y i)];show _+_*((x.getD i 0+y.getD i 0+(eachR plusF x y i).2)%1000000000)+_*((x.getD i 0+y.getD i 0+(eachR plusF x y i).2)/1000000000)=_;rw[YM];generalize (1000000000:Nat)^i=p at*;have h:=split_mul p (x.getD i 0+y.getD i 0+(eachR plusF x y i).2);generalize x.getD i 0=a at*;generalize y.getD i 0=b at*;generalize (eachR plusF x y i).2=c at*;rw[YP,YP]at h;omega
def zre {x y:ZN}(hx:okL x)(hy:okL y):zdN plusF x y=limbs (valL x+valL y):=by
 unfold zdN;generalize hN:max x.length y.length=N;rw[za0 (okL_each plusF_ok _)];have h:=plus_inv x y (N+1);rw[Yl Zo,Yl Zo]at h;have h1:=valL_lt hx;have h2:=valL_lt hy;have h3:(1000000000:Nat)^x.length≤1000000000^N:=YL Zo Zo;have h4:(1000000000:Nat)^y.length≤1000000000^N:=YL Zo Zo;rw[YM]at h;generalize (1000000000:Nat)^N=p at*;have h5:(eachR plusF x y (N+1)).2=0:=by
  rcases YT (eachR plusF x y (N+1)).2 with h0|h0
  ·exact h0
  have:p*1000000000*1≤p*1000000000*(eachR plusF x y (N+1)).2:=Y8 _ h0;omega
 rw[h5,Y9,Y3]at h;rw[h]
def minus_carry(x y:ZN)(i:Nat):(eachR minusF x y i).2≤1:=by
 cases i with
 |zero=>simp[eachR]
 |succ i=>show (minusF _ _ _).2≤1;unfold minusF;omega
def minus_inv(x y:ZN)(hx:okL x)(hy:okL y)(i:Nat):valL (eachR minusF x y i).1+valL (y.take i)=valL (x.take i)+1000000000^i*(eachR minusF x y i).2:=by
 induction i with
 |zero=>simp[eachR,valL]
 |succ i ih=>
  rw[zai,zai];have hc:=minus_carry x y i;have ha:=getD_lt hx i;have hb:=getD_lt hy i;show valL (_++[_])+_=_+_*(minusF _ _ _).2;rw[zdD (eachR_len minusF x y i)];show _+_*((x.getD i 0+1000000000-y.getD i 0-(eachR minusF x y i).2)%1000000000)+_=_+_*(1-(x.getD i 0+1000000000-y.getD i 0-(eachR minusF x y i).2)/1000000000);rw[YM];generalize (1000000000:Nat)^i=p at*;generalize x.getD i 0=a at*;generalize y.getD i 0=b at*;generalize (eachR minusF x y i).2=c at*;by_cases h:a+1000000000-b-c<1000000000
  ·have e1:(a+1000000000-b-c)%1000000000=a+1000000000-b-c:=Yb8 h;have e2:(a+1000000000-b-c)/1000000000=0:=Yb7 h;rw[e1,e2];have h2:p*(a+1000000000-b-c)+p*b+p*c=p*a+p*1000000000:=by rw[←YP,←YP,←YP];congr 1;omega
   simp only[YbA,Yag];omega
  have e1:(a+1000000000-b-c)%1000000000=a-b-c:=Zo;have e2:(a+1000000000-b-c)/1000000000=1:=Zo;rw[e1,e2];have h2:p*(a-b-c)+p*b+p*c=p*a:=by rw[←YP,←YP];congr 1;omega
  simp only[Ybz,Y9];omega
def zm1 {x y:ZN}(hx:okL x)(hy:okL y)(hle:valL y≤valL x):zdN minusF x y=limbs (valL x-valL y):=by
 unfold zdN;generalize hN:max x.length y.length=N;rw[za0 (okL_each minusF_ok _)];have h:=minus_inv x y hx hy (N+1);rw[Yl Zo,Yl Zo]at h;have h6:=valL_lt (okL_each (x:=x) (y:=y) minusF_ok (N+1));rw[eachR_len]at h6;have h7:=minus_carry x y (N+1);generalize (1000000000:Nat)^(N+1)=p at*;have h5:(eachR minusF x y (N+1)).2=0:=by
  rcases YT (eachR minusF x y (N+1)).2 with h0|h0
  ·exact h0
  have:(eachR minusF x y (N+1)).2=1:=Zo;rw[this,Yag]at h;omega
 rw[h5,Y9,Y3]at h;congr 1;omega
def zhA {k:Nat}(hk:k<1000000000)(x:ZN)(hx:okL x)(y:ZN)(i:Nat):(eachR (zK k) x y i).2<1000000000:=by
 induction i with
 |zero=>simp[eachR]
 |succ i ih=>have ha:=getD_lt hx i;have:x.getD i 0*k≤999999999*999999999:=Ybk Zo Zo;show (x.getD i 0*k+(eachR (zK k) x y i).2)/1000000000<1000000000;generalize x.getD i 0*k=q at*;omega
def zhz(k:Nat)(x y:ZN)(i:Nat):valL (eachR (zK k) x y i).1+1000000000^i*(eachR (zK k) x y i).2=valL (x.take i)*k:=by
 induction i with
 |zero=>simp[eachR,valL]
 |succ i ih=>rw[zai];show valL ((eachR (zK k) x y i).1++[(zK k (x.getD i 0) (y.getD i 0) (eachR (zK k) x y i).2).1])+_*(zK k (x.getD i 0) (y.getD i 0) (eachR (zK k) x y i).2).2=_;rw[zdD (eachR_len (zK k) x y i)];show _+_*((x.getD i 0*k+(eachR (zK k) x y i).2)%1000000000)+_*((x.getD i 0*k+(eachR (zK k) x y i).2)/1000000000)=_;rw[YM,Yal];generalize (1000000000:Nat)^i=p at*;have h:=split_mul p (x.getD i 0*k+(eachR (zK k) x y i).2);rw[YP,←Yad]at h;generalize p*x.getD i 0*k=q at*;omega
def zhy {k:Nat}{x:ZN}(hk:k<1000000000)(hx:okL x):zdN (zK k) x []=limbs (valL x*k):=by
 unfold zdN;generalize hN:max x.length ([]:ZN).length=N;have hN':x.length≤N:=Zo;rw[za0 (okL_each (zft k) _)];have h:=zhz k x [] (N+1);rw[Yl Zo]at h;have h1:=valL_lt hx;have h3:(1000000000:Nat)^x.length≤1000000000^N:=YL Zo Zo;have h5:(eachR (zK k) x [] (N+1)).2=0:=by
  rcases YT (eachR (zK k) x [] (N+1)).2 with h0|h0
  ·exact h0
  exfalso;have h8:valL x*k<1000000000^(N+1):=by rw[YM];exact Yu (Ybl (Yu h1 h3) (YbW hk) Zo) (Yc _)
  have h9:1000000000^(N+1)*1≤1000000000^(N+1)*(eachR (zK k) x [] (N+1)).2:=Y8 _ h0;generalize (1000000000:Nat)^(N+1)=p at*;omega
 rw[h5,Y9,Y3]at h;rw[h]
def zaV {x y:Nat}(h:(limbs x).length<(limbs y).length):x<y:=by
 rcases YaX x y with h1|h1
 ·exact h1
 have h2:=valL_lt (zI x);rw[zG]at h2;have:=zaO (YbG h1 h2);omega
def zbq(l:ZN)(k:Nat)(hk:k<l.length):valL l=valL (l.take k)+1000000000^k*(l.getD k 0+1000000000*valL (l.drop (k+1))):=by
 have e:l=l.take k++(l.getD k 0::l.drop (k+1)):=by
  conv=>lhs;rw[←Yae k l]
  congr 1;rw[Yas hk,Ya,Yb hk];rfl
 have h:(l.take k).length=k:=by simp;omega
 conv=>lhs;rw[e]
 rw[zaG,h,valL]
def zfY {l r:ZN}{k:Nat}(ho:okL l)(hlen:l.length=r.length)(hk:k<l.length)(hd:∀j,k<j→l.getD j 0=r.getD j 0)(h:l.getD k 0<r.getD k 0):valL l<valL r:=by
 have e:l.drop (k+1)=r.drop (k+1):=by
  apply Ya7;intro i;rw[Yak,Yak];have:=hd (k+1+i) Zo;rw[Ya,Ya]at this;by_cases hi:k+1+i<l.length
  ·rw[Yb hi,Yb Zo]at this ⊢;simpa using this
  rw[Yr Zo,Yr Zo]
 rw[zbq l k hk,zbq r k Zo,e];have h1:valL (l.take k)<1000000000^k:=by
  have:=valL_lt (l:=l.take k) (fun d hd=>ho d (Ya9 hd));have h2:(l.take k).length=k:=by simp;omega
  rwa [h2]at this
 generalize (1000000000:Nat)^k=p at*;generalize valL (r.drop (k+1))=q at*;have h3:p*(l.getD k 0+1000000000*q)+p≤p*(r.getD k 0+1000000000*q):=by rw[←Nat.mul_succ];exact Y8 _ Zo
 omega
def znu {l r:ZN}(hlen:l.length=r.length)(hd:∀j,l.getD j 0=r.getD j 0):l=r:=by
 apply Ya7;intro i;have:=hd i;rw[Ya,Ya]at this;by_cases hi:i<l.length
 ·rw[Yb hi,Yb Zo]at this ⊢;simpa using this
 rw[Yr Zo,Yr Zo]
def zrv {n k:Nat}(h:n<10^k):(limbs n).length≤k:=zaO (Yu h (Nat.pow_le_pow_left Zo k))
def zbO {a:ZL}{k:Nat}(hd:a.all zaT=true)(hl:a.length≤k):(limbs (valD a)).length≤k:=
 zrv (Yu (zhi hd) (YL Zo hl))
def zm6 {x y k:Nat}(hx:(limbs x).length≤k)(hy:(limbs y).length≤k):(limbs (x+y)).length≤k+1:=by apply zaO;have h1:=valL_lt (zI x);have h2:=valL_lt (zI y);rw[zG]at h1 h2;have h3:(1000000000:Nat)^(limbs x).length≤1000000000^k:=YL Zo hx;have h4:(1000000000:Nat)^(limbs y).length≤1000000000^k:=YL Zo hy;rw[YM];generalize (1000000000:Nat)^k=p at*;omega
def zm4 {x y k:Nat}(hx:(limbs x).length≤k):(limbs (x-y)).length≤k:=by apply zaO;have h1:=valL_lt (zI x);rw[zG]at h1;have h3:(1000000000:Nat)^(limbs x).length≤1000000000^k:=YL Zo hx;omega
def zm5 {x y j k:Nat}(hx:(limbs x).length≤j)(hy:(limbs y).length≤k):(limbs (x*y)).length≤j+k:=by apply zaO;have h1:=valL_lt (zI x);have h2:=valL_lt (zI y);rw[zG]at h1 h2;have h3:(1000000000:Nat)^(limbs x).length≤1000000000^j:=YL Zo hx;have h4:(1000000000:Nat)^(limbs y).length≤1000000000^k:=YL Zo hy;rw[Ycp];exact Ybl (Yu h1 h3) (YbW (Yu h2 h4)) (YcF Zo)
end Go.Pl

namespace Go.Proofs
open Tryz Go.Ab Go.Pl
def cmpI(a b:Int):Int:=if a<b then -1 else if b<a then 1 else 0
def zui(a:Nat):PCall prog 195 [.int .u64 a] (.ret (.bool false)):=by refine Xc (rs:=[.tmp 2]) [0,2] [] mixed (zh) (zf) call195 func195 rfl ntmps195 rfl ?_;simp only[go_sem]
def zsm:ZV:=zC (fun a:Nat=>[.int .u64 a]) (fun _=>True) fun _=>.ret (.bool false)
def zqi(a:Nat):zsm [.int .u64 a]=some (.ret (.bool false)):=zo (pat:=fun a:Nat=>[.int .u64 a]) (fun x y h=>by simp at h;omega) a trivial
def zqh:ZC zsm 195:=zn fun a _=>zui a
attribute [go_sem] zqi
def znJ(a b:Nat):PCall prog 184 [.int .u64 a,.int .u64 b] (.ret (.int .i64 (cmpI a b))):=by
 refine Xc (rs:=[.tmp 4]) [0,1,4,5,6,11,12,13,16,19] [] mixed (zg zqh zh) (zf) call184 func184 rfl ntmps184 rfl ?_;simp only[go_sem];refine Xb (fun h1=>?_) (fun h1=>?_)
 ·simp only[go_sem];simp[cmpI,h1]
 simp only[go_sem];refine Xb (fun h2=>?_) (fun h2=>?_)
 ·simp only[go_sem];simp[cmpI,h1,h2]
 simp only[go_sem];simp[cmpI,h1,h2]
def zjY:ZV:=zC (fun p:Nat×Nat=>[.int .u64 p.1,.int .u64 p.2]) (fun _=>True) fun p=>.ret (.int .i64 (cmpI p.1 p.2))
def zlP(a b:Nat):zjY [.int .u64 a,.int .u64 b]=some (.ret (.int .i64 (cmpI a b))):=zo (pat:=fun p:Nat×Nat=>[.int .u64 p.1,.int .u64 p.2]) (fun x y h=>by simp at h;exact Yai Zo Zo) (a,b) trivial
def zlO:ZC zjY 184:=zn fun p _=>znJ p.1 p.2
attribute [go_sem] zlP
def zyv(a:Int):PCall prog 194 [.int .i64 a] (.ret (.bool false)):=by refine Xc (rs:=[.tmp 2]) [0,2] [] mixed (zh) (zf) call194 func194 rfl ntmps194 rfl ?_;simp only[go_sem]
def zAt:ZV:=zC (fun a:Int=>[.int .i64 a]) (fun _=>True) fun _=>.ret (.bool false)
def zvo(a:Int):zAt [.int .i64 a]=some (.ret (.bool false)):=zo (pat:=fun a:Int=>[.int .i64 a]) (fun x y h=>by simpa using h) a trivial
def zvn:ZC zAt 194:=zn fun a _=>zyv a
attribute [go_sem] zvo
def zpZ(a b:Int):PCall prog 183 [.int .i64 a,.int .i64 b] (.ret (.int .i64 (cmpI a b))):=by
 refine Xc (rs:=[.tmp 4]) [0,1,4,5,6,11,12,13,16,19] [] mixed (zg zvn zh) (zf) call183 func183 rfl ntmps183 rfl ?_;simp only[go_sem];refine Xb (fun h1=>?_) (fun h1=>?_)
 ·simp only[go_sem];simp[cmpI,h1]
 simp only[go_sem];refine Xb (fun h2=>?_) (fun h2=>?_)
 ·simp only[go_sem];simp[cmpI,h1,h2]
 simp only[go_sem];simp[cmpI,h1,h2]
def zn3:ZV:=zC (fun p:Int×Int=>[.int .i64 p.1,.int .i64 p.2]) (fun _=>True) fun p=>.ret (.int .i64 (cmpI p.1 p.2))
def zn2(a b:Int):zn3 [.int .i64 a,.int .i64 b]=some (.ret (.int .i64 (cmpI a b))):=zo (pat:=fun p:Int×Int=>[.int .i64 p.1,.int .i64 p.2]) (fun x y h=>by simp at h;exact Yai h.1 h.2) (a,b) trivial
def zn1:ZC zn3 183:=zn fun p _=>zpZ p.1 p.2
attribute [go_sem] zn2
def plus1_ok(a b c:Nat)(ha:a<1000000000)(hb:b<1000000000)(hc:c≤1):PCall prog 182 [.int .u64 a,.int .u64 b,.int .u64 c] (.ret (.tup [.int .u64 ((a+b+c)%1000000000:Nat),.int .u64 ((a+b+c)/1000000000:Nat)])):=by refine Xc (rs:=[.tmp 6,.tmp 7]) [0,1,2,6,7,8] [] mixed (zh) (zf) call182 func182 rfl ntmps182 rfl ?_;simp(disch:=try exact Zq)only[go_sem];omega
def zxV(a b c:Nat)(ha:a<1000000000)(hb:b<1000000000)(hc:c≤1):PCall prog 189 [.int .u64 a,.int .u64 b,.int .u64 c] (.ret (.tup [.int .u64 ((a+1000000000-b-c)%1000000000:Nat),.int .u64 (1-(a+1000000000-b-c)/1000000000:Nat)])):=by refine Xc (rs:=[.tmp 6,.tmp 7]) [0,1,2,6,7,8] [] mixed (zh) (zf) call189 func189 rfl ntmps189 rfl ?_;simp(disch:=try exact Zq)only[go_sem];omega
def zth(a b c k:Nat)(ha:a<1000000000)(hk:k<1000000000)(hc:c<1000000000):PCall prog 202 [.int .u64 a,.int .u64 b,.int .u64 c,.fp [.int .u64 k]] (.ret (.tup [.int .u64 ((a*k+c)%1000000000:Nat),.int .u64 ((a*k+c)/1000000000:Nat)])):=by refine Xc (rs:=[.tmp 7,.tmp 8]) [0,2,3,7,8,9] [] mixed (zh) (zf) call202 func202 rfl ntmps202 rfl ?_;have hm:(a:Int)*(k:Int)=((a*k:Nat):Int):=Zs;have hb:a*k≤999999999*999999999:=Ybk Zo Zo;generalize a*k=p at*;simp(disch:=try exact Zq)only[go_sem,hm];omega
def zyY(Γ0:FuncId→ZA→Option PR)(hΓ0:zdw prog Γ0)(fid:FuncId)(caps:ZA)(hfid:(fid==156)=false)(hcaps:nzs caps=caps)(hrefs:zcq caps=[])(hpure:∀x∈caps,Pure x)(F:Nat→Nat→Nat→Nat×Nat)(Q:Nat→Prop)(hQ0:Q 0) (hF:∀a b c:Nat,a<1000000000→b<1000000000→Q c→Γ0 fid (.int .u64 a::.int .u64 b::.int .u64 c::caps)=some (.ret (.tup [.int .u64 (F a b c).1,.int .u64 (F a b c).2]))∧Q (F a b c).2) (x y:ZN) (hx:okL x) (hy:okL y) (hlx:x.length≤1000) (hly:y.length≤1000):PCall prog 181 [.fs (nats .u64 x) x.length,.fs (nats .u64 y) y.length,.fn fid caps] (.ret (.fs (nats .u64 (zdN F x y)) (zdN F x y).length)):=by
 have getlt:∀ {l:ZN},okL l→∀i,l.getD i 0<1000000000:=fun {l} h i=>by
  rw[Ya];by_cases hi:i<l.length
  ·rw[Yb hi];exact h _ (Y6 _)
  rw[Yr Zo];simp
 have hpureP:(∀x∈caps,Ab.Pure x)↔True:=⟨fun _=>trivial,fun _=>hpure⟩;refine PCall.walk (rs:=[.tmp 6]) [0,1,2,6,7,8,9,10,11,12,18,19,20,25,33] [] mixed (zg zcc hΓ0) (zf) zzJ func181 rfl ntmps181 rfl Zk Zs (by simp[push_cast,hpureP]) ?_;have hmx:maxI (x.length:Int) (y.length:Int)=((max x.length y.length:Nat):Int):=by unfold maxI;split<;>omega
 have hmb:max x.length y.length≤1000:=Zo;generalize hN:max x.length y.length=N at*;simp(disch:=try exact Zq)only[go_sem,hmx];have hQ:∀i,Q (eachR F x y i).2:=by
  intro i;induction i with
  |zero=>exact hQ0
  |succ i ih=>exact(hF _ _ _ (getlt hx i) (getlt hy i) ih).2
 refine AXs.loop mixed (zg zcc hΓ0) (zf) (fun i:Nat=>[(0,.fs (nats .u64 x) x.length),(1,.fs (nats .u64 y) y.length),(2,.fn fid caps),(7,bkV (eachR F x y i).1),(8,.int .u64 (eachR F x y i).2),(18,.int .i64 (N+1:Int)),(19,.int .i64 i)])
  (fun i=>⟨bkBs (eachR F x y i).1,bkN (eachR F x y i).1⟩) (fun i=>i≤N+1) (fun i=>N+1-i) 0 Zk (Yk _) (Xa [] rfl rfl ?_ ?_) ?_
 ·simp only[go_sem,eachR,bkV];simpa using zA hpure
 ·simp only[go_sem,eachR,bkBs]
 intro i hi;simp(disch:=try exact Zq)only[go_sem];refine Xb (fun h1=>?_) (fun h1=>?_)
 ·have hFi:=(hF (x.getD i 0) (y.getD i 0) (eachR F x y i).2 (getlt hx i) (getlt hy i) (hQ i)).1;have hsucc:eachR F x y (i+1)=((eachR F x y i).1++[(F (x.getD i 0) (y.getD i 0) (eachR F x y i).2).1],(F (x.getD i 0) (y.getD i 0) (eachR F x y i).2).2):=rfl;have hlen:=eachR_len F x y i;generalize F (x.getD i 0) (y.getD i 0) (eachR F x y i).2=r at hFi hsucc;generalize eachR F x y i=q at*;obtain⟨q1,q2⟩:=q;dsimp only at hFi hsucc hlen ⊢;have zx:¬(i:Int)<x.length→x.getD i 0=0:=fun h=>za2 _ _ _ Zo;have zy:¬(i:Int)<y.length→y.getD i 0=0:=fun h=>za2 _ _ _ Zo;by_cases c1:(i:Int)<x.length<;>by_cases c2:(i:Int)<y.length;all_goals
   try rw[zx c1]at hFi
   try rw[zy c2]at hFi
   try simp only[Int.natCast_zero]at hFi
   rcases q1 with _|⟨d,l⟩
   ·simp(disch:=try exact Zq)only[go_sem,bkV,bkBs,bkN,c1,c2,hfid,hcaps,hrefs,hFi];repeat refine And.intro Zo ?_
    refine zi (i+1) Zo Zo (Xa [(0,1)] rfl (by rw[hsucc];rfl) ?_ ?_)
    ·rw[hsucc];simp only[go_sem,bkV,bkBs,bkN];simpa using zA hpure
    rw[hsucc];simp only[go_sem,bkV,bkBs,bkN];simp[nats]
   ·have hll:l.length+1=i:=hlen;simp(disch:=try exact Zq)only[go_sem,bkV,bkBs,bkN,c1,c2,hfid,hcaps,hrefs,hFi];repeat refine And.intro Zo ?_
    refine zi (i+1) Zo Zo (Xa [(0,2)] rfl (by rw[hsucc];rfl) ?_ ?_)
    ·rw[hsucc];simp only[go_sem,bkV,bkBs,bkN];simpa using zA hpure
    rw[hsucc];simp only[go_sem,bkV,bkBs,bkN];simp[nats]
 have hie:i=N+1:=Zo;subst hie;have hlen:=eachR_len F x y (N+1);have he:zdN F x y=zaw (eachR F x y (N+1)).1:=by unfold zdN;rw[hN]
 rw[he];generalize eachR F x y (N+1)=q at*;obtain⟨q1,q2⟩:=q;dsimp only at hlen ⊢;rcases q1 with _|⟨d,l⟩
 ·simp at hlen
 have hll:l.length+1=N+1:=hlen;simp only[go_sem,bkV,bkBs,bkN];refine AXa.fz [0] rfl rfl rfl (env':=[(7,.fs (nats .u64 (d::l)) (d::l).length)]) (bs':=[]) (n':=1) ?_ ?_ ?_
 ·simp only[go_sem];right;exact FrzF.slp Zs rfl rfl (by simp[zQ]) (by simp[zbT]) (zaH _ _)
 ·simp only[go_sem]
 refine AXa.go mixed (zg zcc hΓ0) (zf) Zk ?_;simp(disch:=try exact Zq)only[go_sem]
def zbH(x y:Nat):cmpI (x:Int) (y:Int)=if x<y then -1 else if y<x then 1 else 0:=by simp only[cmpI,Int.ofNat_lt]
def zch {x y:Nat}(h:limbs x=limbs y):x=y:=by rw[←zG x,h,zG]
def zp0(x y:Nat)(hx:(limbs x).length≤1000)(hy:(limbs y).length≤1000):PCall prog 174 [.fs (nats .u64 (limbs x)) (limbs x).length,.fs (nats .u64 (limbs y)) (limbs y).length] (.ret (.int .i64 (cmpI x y))):=by
 have hΓ:=zg zlO (zg zn1 (zh (P:=prog)));refine Xc (rs:=[.tmp 4]) [0,1,4,5,6,11,18,19,20,40] [] mixed (hΓ) (zf) call174 func174 rfl ntmps174 rfl ?_;simp only[go_sem];refine Xk (fun h1=>?_) (fun h1=>?_)
 ·simp only[go_sem];rw[zbH,zbH];by_cases h2:(limbs x).length<(limbs y).length
  ·have:=zaV h2;simp[h2,this]
  have h3:(limbs y).length<(limbs x).length:=Zo;have:=zaV h3;simp[h2,h3,this];omega
 have hlen:(limbs x).length=(limbs y).length:=Zo;have ox:=zI x;have oy:=zI y;have vx:=zG x;have vy:=zG y;generalize limbs x=l at*;generalize limbs y=r at*;subst vx vy;simp only[go_sem];refine AXs.loop mixed (hΓ) (zf) (fun i:Nat=>[(0,.fs (nats .u64 l) l.length),(1,.fs (nats .u64 r) r.length),(18,.int .i64 l.length),(19,.int .i64 i)]) (fun _=>⟨[],0⟩) (fun i=>i≤l.length∧∀j,l.length-i≤j→l.getD j 0=r.getD j 0) (fun i=>l.length-i) 0 Zk
  ⟨Yk _,fun j hj=>by rw[za2 _ _ _ Zo,za2 _ _ _ Zo]⟩ (Xa [] rfl rfl ?_ ?_) ?_
 ·simp only[go_sem]
 ·simp only[go_sem]
 rintro i ⟨hi,hd⟩;simp(disch:=try exact Zq)only[go_sem];refine Xb (fun h2=>?_) (fun h2=>?_)
 ·simp(disch:=try exact Zq)only[go_sem];repeat refine And.intro Zo ?_
  have hk:l.length-1-i<l.length:=Zo;have hup:∀j,l.length-1-i<j→l.getD j 0=r.getD j 0:=fun j hj=>hd j Zo;refine Xk (fun h3=>?_) (fun h3=>?_)
  ·simp only[go_sem];rw[zbH]at h3 ⊢;rw[zbH];by_cases h4:l.getD (l.length-1-i) 0<r.getD (l.length-1-i) 0
   ·have:=zfY ox hlen hk hup h4;simp only[h4,this,if_true]
   by_cases h5:r.getD (l.length-1-i) 0<l.getD (l.length-1-i) 0
   ·have:=zfY oy hlen.symm Zo (fun j hj=>(hup j hj).symm) h5;rw[Yh h4,Yi h5,Yh Zo,Yi this]
   exact absurd (by rw[Yh h4,Yh h5]) h3
  simp(disch:=try exact Zq)only[go_sem];refine zi (i+1) ⟨Zo,fun j hj=>?_⟩ Zo (Xa [] rfl rfl ?_ ?_)
  ·by_cases hje:j=l.length-1-i
   ·subst hje;simp only[cmpI]at h3;split at h3
    ·omega
    split at h3<;>omega
   exact hup j Zo
  ·simp only[go_sem];simp
  simp only[go_sem]
 have hie:i=l.length:=Zo;subst hie;simp only[go_sem];refine AXa.go mixed (hΓ) (zf) Zk ?_;simp only[go_sem];have:l=r:=znu hlen fun j=>hd j Zo;subst this;simp[cmpI]
def zn5:ZV:=zC (fun p:Nat×Nat=>[.fs (nats .u64 (limbs p.1)) (limbs p.1).length,.fs (nats .u64 (limbs p.2)) (limbs p.2).length]) (fun p=>(limbs p.1).length≤1000∧(limbs p.2).length≤1000) fun p=>.ret (.int .i64 (cmpI p.1 p.2))
def zke {x y:Nat×Nat}(h:[V.fs (nats .u64 (limbs x.1)) (limbs x.1).length,.fs (nats .u64 (limbs x.2)) (limbs x.2).length]=[.fs (nats .u64 (limbs y.1)) (limbs y.1).length,.fs (nats .u64 (limbs y.2)) (limbs y.2).length]):x=y:=by simp at h;exact Yai (zch (zaI h.1.1)) (zch (zaI h.2.1))
def zn4(x y n m:Nat)(hn:n=(limbs x).length)(hm:m=(limbs y).length)(hx:(limbs x).length≤1000)(hy:(limbs y).length≤1000):zn5 [.fs (nats .u64 (limbs x)) n,.fs (nats .u64 (limbs y)) m]=some (.ret (.int .i64 (cmpI x y))):=by subst hn hm;exact zo (pat:=fun p:Nat×Nat=>[V.fs (nats .u64 (limbs p.1)) (limbs p.1).length,.fs (nats .u64 (limbs p.2)) (limbs p.2).length]) (fun _ _ h=>zke h) (x,y) ⟨hx,hy⟩
def zeu:ZC zn5 174:=zn fun p h=>zp0 p.1 p.2 h.1 h.2
attribute [go_sem] zn4
def zhm {a b c a' b' c':Nat}{r:ZA}(h:V.int .u64 a::.int .u64 b::.int .u64 c::r=V.int .u64 a'::.int .u64 b'::.int .u64 c'::r):(a,b,c)=(a',b',c'):=by simp at h;simp;omega
def cPlus1:ZV:=zC (fun p:Nat×Nat×Nat=>[.int .u64 p.1,.int .u64 p.2.1,.int .u64 p.2.2]) (fun p=>p.1<1000000000∧p.2.1<1000000000∧p.2.2≤1) fun p=>.ret (.tup [.int .u64 (plusF p.1 p.2.1 p.2.2).1,.int .u64 (plusF p.1 p.2.1 p.2.2).2])
def zz7:ZC cPlus1 182:=zn fun p h=>plus1_ok p.1 p.2.1 p.2.2 h.1 h.2.1 h.2.2
def zAc:ZV:=zC (fun p:Nat×Nat×Nat=>[.int .u64 p.1,.int .u64 p.2.1,.int .u64 p.2.2]) (fun p=>p.1<1000000000∧p.2.1<1000000000∧p.2.2≤1) fun p=>.ret (.tup [.int .u64 (minusF p.1 p.2.1 p.2.2).1,.int .u64 (minusF p.1 p.2.1 p.2.2).2])
def zvm:ZC zAc 189:=zn fun p h=>zxV p.1 p.2.1 p.2.2 h.1 h.2.1 h.2.2
def zr7(k:Nat):ZV:=zC (fun p:Nat×Nat×Nat=>[.int .u64 p.1,.int .u64 p.2.1,.int .u64 p.2.2,.fp [.int .u64 k]]) (fun p=>p.1<1000000000∧k<1000000000∧p.2.2<1000000000) fun p=>.ret (.tup [.int .u64 (zK k p.1 p.2.1 p.2.2).1,.int .u64 (zK k p.1 p.2.1 p.2.2).2])
def zp9(k:Nat):∀args r,zr7 k args=some r→PCall prog 202 args r:=zn fun p h=>zth p.1 p.2.1 p.2.2 k h.1 h.2.1 h.2.2
def zpT(x y:ZN)(hx:okL x)(hy:okL y)(hlx:x.length≤1000)(hly:y.length≤1000):PCall prog 181 [.fs (nats .u64 x) x.length,.fs (nats .u64 y) y.length,.fn 182 []] (.ret (.fs (nats .u64 (limbs (valL x+valL y))) (limbs (valL x+valL y)).length)):=by
 rw[←zre hx hy];refine zyY (extΓ 182 cPlus1 noΓ) (zg zz7 zh) 182 [] rfl rfl rfl Zs plusF (· ≤1) Zs (fun a b c ha hb hc=>⟨?_,?_⟩) x y hx hy hlx hly
 ·exact zo (pat:=fun p:Nat×Nat×Nat=>[V.int .u64 p.1,.int .u64 p.2.1,.int .u64 p.2.2]) (cond:=fun p=>p.1<1000000000∧p.2.1<1000000000∧p.2.2≤1) (res:=fun p=>.ret (.tup [.int .u64 (plusF p.1 p.2.1 p.2.2).1,.int .u64 (plusF p.1 p.2.1 p.2.2).2])) (fun x y h=>zhm h) (a,b,c) ⟨ha,hb,hc⟩
 unfold plusF;dsimp only;omega
def znv(x y:ZN)(hx:okL x)(hy:okL y)(hlx:x.length≤1000)(hly:y.length≤1000)(hle:valL y≤valL x):PCall prog 181 [.fs (nats .u64 x) x.length,.fs (nats .u64 y) y.length,.fn 189 []] (.ret (.fs (nats .u64 (limbs (valL x-valL y))) (limbs (valL x-valL y)).length)):=by
 rw[←zm1 hx hy hle];refine zyY (extΓ 189 zAc noΓ) (zg zvm zh) 189 [] rfl rfl rfl Zs minusF (· ≤1) Zs (fun a b c ha hb hc=>⟨?_,?_⟩) x y hx hy hlx hly
 ·exact zo (pat:=fun p:Nat×Nat×Nat=>[V.int .u64 p.1,.int .u64 p.2.1,.int .u64 p.2.2]) (cond:=fun p=>p.1<1000000000∧p.2.1<1000000000∧p.2.2≤1) (res:=fun p=>.ret (.tup [.int .u64 (minusF p.1 p.2.1 p.2.2).1,.int .u64 (minusF p.1 p.2.1 p.2.2).2])) (fun x y h=>zhm h) (a,b,c) ⟨ha,hb,hc⟩
 unfold minusF;dsimp only;omega
def znY:ZV:=zC (fun p:ZN×ZN=>[.fs (nats .u64 p.1) p.1.length,.fs (nats .u64 p.2) p.2.length,.fn 182 []]) (fun p=>okL p.1∧okL p.2∧p.1.length≤1000∧p.2.length≤1000) fun p=>.ret (.fs (nats .u64 (limbs (valL p.1+valL p.2))) (limbs (valL p.1+valL p.2)).length)
def znW:ZC znY 181:=zn fun p h=>zpT p.1 p.2 h.1 h.2.1 h.2.2.1 h.2.2.2
def znX(x y:Nat)(hx:(limbs x).length≤1000)(hy:(limbs y).length≤1000):znY [.fs (nats .u64 (limbs x)) (limbs x).length,.fs (nats .u64 (limbs y)) (limbs y).length,.fn 182 []]=some (.ret (.fs (nats .u64 (limbs (x+y))) (limbs (x+y)).length)):=by
 have:=zo (pat:=fun p:ZN×ZN=>[V.fs (nats .u64 p.1) p.1.length,.fs (nats .u64 p.2) p.2.length,.fn 182 []]) (cond:=fun p=>okL p.1∧okL p.2∧p.1.length≤1000∧p.2.length≤1000) (res:=fun p=>.ret (.fs (nats .u64 (limbs (valL p.1+valL p.2))) (limbs (valL p.1+valL p.2)).length))
  (fun a b h=>by simp at h;exact Yai (zaI h.1.1) (zaI h.2.1)) (limbs x,limbs y) ⟨zI x,zI y,hx,hy⟩
 simp only[zG]at this;exact this
def zjX:ZV:=zC (fun p:ZN×ZN=>[.fs (nats .u64 p.1) p.1.length,.fs (nats .u64 p.2) p.2.length,.fn 189 []]) (fun p=>okL p.1∧okL p.2∧p.1.length≤1000∧p.2.length≤1000∧valL p.2≤valL p.1) fun p=>.ret (.fs (nats .u64 (limbs (valL p.1-valL p.2))) (limbs (valL p.1-valL p.2)).length)
def zlM:ZC zjX 181:=zn fun p h=>znv p.1 p.2 h.1 h.2.1 h.2.2.1 h.2.2.2.1 h.2.2.2.2
def zlN(x y:Nat)(hx:(limbs x).length≤1000)(hy:(limbs y).length≤1000)(hle:y≤x):zjX [.fs (nats .u64 (limbs x)) (limbs x).length,.fs (nats .u64 (limbs y)) (limbs y).length,.fn 189 []]=some (.ret (.fs (nats .u64 (limbs (x-y))) (limbs (x-y)).length)):=by
 have:=zo (pat:=fun p:ZN×ZN=>[V.fs (nats .u64 p.1) p.1.length,.fs (nats .u64 p.2) p.2.length,.fn 189 []]) (cond:=fun p=>okL p.1∧okL p.2∧p.1.length≤1000∧p.2.length≤1000∧valL p.2≤valL p.1) (res:=fun p=>.ret (.fs (nats .u64 (limbs (valL p.1-valL p.2))) (limbs (valL p.1-valL p.2)).length))
  (fun a b h=>by simp at h;exact Yai (zaI h.1.1) (zaI h.2.1)) (limbs x,limbs y) ⟨zI x,zI y,hx,hy,by rw[zG,zG];exact hle⟩
 simp only[zG]at this;exact this
attribute [go_sem] znX zlN
def plusB_ok(x y:Nat)(hx:(limbs x).length≤1000)(hy:(limbs y).length≤1000):PCall prog 173 [.fs (nats .u64 (limbs x)) (limbs x).length,.fs (nats .u64 (limbs y)) (limbs y).length] (.ret (.fs (nats .u64 (limbs (x+y))) (limbs (x+y)).length)):=by refine Xc (rs:=[.tmp 4]) [0,1,4] [] mixed (zg znW zh) (zf) call173 func173 rfl ntmps173 rfl ?_;simp(disch:=try exact Zq)only[go_sem]
def zxU(x y:Nat)(hx:(limbs x).length≤1000)(hy:(limbs y).length≤1000)(hle:y≤x):PCall prog 176 [.fs (nats .u64 (limbs x)) (limbs x).length,.fs (nats .u64 (limbs y)) (limbs y).length] (.ret (.fs (nats .u64 (limbs (x-y))) (limbs (x-y)).length)):=by refine Xc (rs:=[.tmp 4]) [0,1,4] [] mixed (zg zlM zh) (zf) call176 func176 rfl ntmps176 rfl ?_;simp(disch:=try exact Zq)only[go_sem]
end Go.Proofs
