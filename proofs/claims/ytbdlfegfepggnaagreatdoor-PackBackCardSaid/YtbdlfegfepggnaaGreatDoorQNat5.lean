import Derived.Test.YtbdlfegfepggnaaGreatDoorQNat4
set_option linter.all false
set_option maxHeartbeats 16000000
set_option maxRecDepth 100000
noncomputable section
namespace Go.Proofs
open Tryz Go.Ab Go.Pl
def zhK:Prop:=∀n:Nat,(limbs n).length≤100000→PCall prog 175 [.fs (nats .u64 (limbs n)) (limbs n).length] (.ret (.str (dec n)))
def cText:ZV:=zL (fun n:Nat=>[.fs (nats .u64 (limbs n)) (limbs n).length]) (fun n=>(limbs n).length≤100000) fun n=>.ret (.str (dec n))
def cText_eq(n m:Nat)(hm:m=(limbs n).length)(h:(limbs n).length≤100000):cText [.fs (nats .u64 (limbs n)) m]=some (.ret (.str (dec n))):=by subst hm;exact zo (pat:=fun n:Nat=>[V.fs (nats .u64 (limbs n)) (limbs n).length]) (fun x y h=>by simp at h;exact zbW (zaY h.1)) n h
def zkt(hT:zhK):ZC cText 175:=zn hT
def zxU:ZV:=zL (fun a:ZL=>[.str a]) (fun a=>a.all zcl=true∧a.length≤1000) fun a=>.ret (.fs (nats .u64 (limbs (valD a))) (limbs (valD a)).length)
def ztb(a:ZL)(h1:a.all zcl=true)(h2:a.length≤1000):zxU [.str a]=some (.ret (.fs (nats .u64 (limbs (valD a))) (limbs (valD a)).length)):=zo (pat:=fun a:ZL=>[V.str a]) (fun x y h=>by simpa using h) a ⟨h1,h2⟩
def zcU:ZC zxU 154:=zn fun a h=>zx4 a h.1 h.2
def cPlusB:ZV:=zL (fun p:Nat×Nat=>[.fs (nats .u64 (limbs p.1)) (limbs p.1).length,.fs (nats .u64 (limbs p.2)) (limbs p.2).length]) (fun p=>(limbs p.1).length≤1000∧(limbs p.2).length≤1000) fun p=>.ret (.fs (nats .u64 (limbs (p.1+p.2))) (limbs (p.1+p.2)).length)
def zxs(x y n m:Nat)(hn:n=(limbs x).length)(hm:m=(limbs y).length)(hx:(limbs x).length≤1000)(hy:(limbs y).length≤1000):cPlusB [.fs (nats .u64 (limbs x)) n,.fs (nats .u64 (limbs y)) m]=some (.ret (.fs (nats .u64 (limbs (x+y))) (limbs (x+y)).length)):=by subst hn hm;exact zo (pat:=fun p:Nat×Nat=>[V.fs (nats .u64 (limbs p.1)) (limbs p.1).length,.fs (nats .u64 (limbs p.2)) (limbs p.2).length]) (fun _ _ h=>zjf h) (x,y) ⟨hx,hy⟩
def zxr:ZC cPlusB 173:=zn fun p h=>plusB_ok p.1 p.2 h.1 h.2
def zxy:ZV:=zL (fun p:Nat×Nat=>[.fs (nats .u64 (limbs p.1)) (limbs p.1).length,.fs (nats .u64 (limbs p.2)) (limbs p.2).length]) (fun p=>(limbs p.1).length≤1000∧(limbs p.2).length≤1000∧p.2≤p.1) fun p=>.ret (.fs (nats .u64 (limbs (p.1-p.2))) (limbs (p.1-p.2)).length)
def zs3(x y n m:Nat)(hn:n=(limbs x).length)(hm:m=(limbs y).length)(hx:(limbs x).length≤1000)(hy:(limbs y).length≤1000)(hle:y≤x):zxy [.fs (nats .u64 (limbs x)) n,.fs (nats .u64 (limbs y)) m]=some (.ret (.fs (nats .u64 (limbs (x-y))) (limbs (x-y)).length)):=by subst hn hm;exact zo (pat:=fun p:Nat×Nat=>[V.fs (nats .u64 (limbs p.1)) (limbs p.1).length,.fs (nats .u64 (limbs p.2)) (limbs p.2).length]) (fun _ _ h=>zjf h) (x,y) ⟨hx,hy,hle⟩
def zsZ:ZC zxy 176:=zn fun p h=>zvp p.1 p.2 h.1 h.2.1 h.2.2
attribute [go_sem] cText_eq ztb zxs zs3
def limV(n:Nat):V:=if 1000<(dec n).length then .tup [.str [],.int .i64 2]else .tup [.str (dec n),.int .i64 0]
def zrQ(hT:zhK)(n:Nat)(hn:(limbs n).length≤100000):PCall prog 155 [.fs (nats .u64 (limbs n)) (limbs n).length] (.ret (limV n)):=by
 refine Xa (rs:=[.tmp 2,.tmp 3]) [0,2,3,4,9] [] mixed (zf (zkt hT) zh) (zg) call155 func155 rfl ntmps155 rfl ?_;simp(disch:=try exact Zq)only[go_sem];refine Xc (fun h1=>?_) (fun h1=>?_)
 ·have:1000<(dec n).length:=Zo;simp only[go_sem,limV,this]
 have:¬1000<(dec n).length:=Zo;simp only[go_sem,limV,this]
def zqm:ZV:=zL (fun n:Nat=>[.fs (nats .u64 (limbs n)) (limbs n).length]) (fun n=>(limbs n).length≤100000) fun n=>.ret (limV n)
def zoy(n m:Nat)(hm:m=(limbs n).length)(h:(limbs n).length≤100000):zqm [.fs (nats .u64 (limbs n)) m]=some (.ret (limV n)):=by subst hm;exact zo (pat:=fun n:Nat=>[V.fs (nats .u64 (limbs n)) (limbs n).length]) (fun x y h=>by simp at h;exact zbW (zaY h.1)) n h
def zhD(hT:zhK):ZC zqm 155:=zn (zrQ hT)
attribute [go_sem] zoy
def zaT {a:ZL}(h:zX a=true):a.all zcl=true:=(validN_iff.1 h).2
def zaS {a:ZL}(h:zX a=true):a.length≤1000:=(validN_iff.1 h).1.2
def errV(e:Int):V:=.tup [.str [],.int .i64 e]
def addV(a b:ZL):V:=if zX a=true∧zX b=true then limV (valD a+valD b)else errV 1
def zpK(n:Nat):∃s e,limV n=.tup [.str s,.int .i64 e]:=by unfold limV;split<;>exact⟨_,_,rfl⟩
def zvk(hT:zhK)(a b:ZL):PCall prog 150 [.str a,.str b] (.ret (addV a b)):=by
 refine Xa (rs:=[.tmp 4,.tmp 5]) [0,1,4,5,13] [] mixed (zf zcS (zf zcU (zf zxr (zf (zhD hT) zh)))) (zg) call150 func150 rfl ntmps150 rfl ?_;by_cases ha:zX a=true
 ·by_cases hb:zX b=true
  ·have da:=zaT ha;have la:=zaS ha;have db:=zaT hb;have lb:=zaS hb;have ba:=zbr da la;have bb:=zbr db lb;have bs:=zlS ba bb;obtain⟨s,e,hse⟩:=zpK (valD a+valD b);simp(disch:=try exact Zq)only[go_sem,addV,ha,hb,hse]
  simp only[go_sem,addV,ha,hb,errV]
 simp only[go_sem,addV,ha,errV]
end Go.Proofs

namespace Go.Pl
def zjt {l:ZN}{j d:Nat}(hj:j<l.length):valL (l.set j d)+1000000000^j*l.getD j 0=valL l+1000000000^j*d:=by
 have h1:=zba l j hj;have h2:=zba (l.set j d) j (by simpa using hj);have e1:(l.set j d).take j=l.take j:=by rw[Ybt (Yc _)]
 have e2:(l.set j d).drop (j+1)=l.drop (j+1):=by rw[YbL Zo]
 have e3:(l.set j d).getD j 0=d:=by rw[Ya,Ya4 (by simpa using hj)];rfl
 rw[e1,e2,e3]at h2;rw[h1,h2];generalize (1000000000:Nat)^j=p at*;generalize 1000000000*valL (l.drop (j+1))=q at*;rw[YM,YM];omega
def zbo {l:ZN}{i j d:Nat}(h:i≠j):(l.set i d).getD j 0=l.getD j 0:=by rw[Ya,List.getElem?_set_ne h,Ya]
def zel {l:ZN}{i d:Nat}(h:okL l)(hd:d<1000000000):okL (l.set i d):=by
 intro x hx;rcases Ycf hx with h1|h1
 ·exact h x h1
 omega
def zed(x y:ZN)(i V0 k:Nat)(l:ZN)(c:Nat):Prop:=
 l.length=x.length+y.length+1∧okL l∧c<1000000000∧valL l+1000000000^(i+k)*c=V0+1000000000^i*(x.getD i 0*valL (y.take k))∧
 (k≤y.length→l.getD (i+y.length) 0=0)∧(∀j,i+y.length<j→l.getD j 0=0)∧(k=y.length+1→c=0)
def mulP(x y:ZN)(i k:Nat)(l:ZN)(c:Nat):Nat:=l.getD (i+k) 0+c+x.getD i 0*y.getD k 0
def zj4 {x y:ZN}{i k:Nat}{l:ZN}{c:Nat}(hx:okL x)(hy:okL y)(hl:okL l)(hc:c<1000000000):mulP x y i k l c<1000000000000000000∧x.getD i 0*y.getD k 0≤999999998000000001:=by have h1:=getD_lt hx i;have h2:=getD_lt hy k;have h3:=getD_lt hl (i+k);have h4:x.getD i 0*y.getD k 0≤999999999*999999999:=Ybd Zo Zo;unfold mulP;generalize x.getD i 0*y.getD k 0=q at*;omega
def zpB {x y:ZN}{i V0 k:Nat}{l:ZN}{c:Nat}(hx:okL x)(hy:okL y)(hi:i<x.length)(hk:k≤y.length)(h:zed x y i V0 k l c):zed x y i V0 (k+1) (l.set (i+k) (mulP x y i k l c%1000000000)) (mulP x y i k l c/1000000000):=by
 obtain⟨h1,h2,h3,h4,h5,h6,h7⟩:=h;have hb:=(zj4 (i:=i) (k:=k) hx hy h2 h3).1;have hj:i+k<l.length:=Zo;refine⟨by simpa using h1,zel h2 (YaL _ Zo),Zo,?_,fun hk'=>?_,fun j hj'=>?_,fun hk'=>?_⟩
 ·have hs:=zjt (d:=mulP x y i k l c%1000000000) hj;rw[zae,←YO,YG];have hp:1000000000^(i+k)=(1000000000:Nat)^i*1000000000^k:=YbP _ _ _;have hsp:=split_mul (1000000000^(i+k)) (mulP x y i k l c);have hexp:1000000000^(i+k)*mulP x y i k l c=1000000000^(i+k)*l.getD (i+k) 0+1000000000^(i+k)*c+1000000000^i*(x.getD i 0*(1000000000^k*y.getD k 0)):=by rw[hp];unfold mulP;rw[YM,YM];congr 1;rw[YY];congr 1;rw[←YY,←YY,Yac (1000000000^k) (x.getD i 0)]
  rw[YM (x.getD i 0),YM (1000000000^i)];generalize 1000000000^i*(x.getD i 0*valL (y.take k))=a1 at*;generalize 1000000000^i*(x.getD i 0*(1000000000^k*y.getD k 0))=a2 at*;generalize (1000000000:Nat)^(i+k)=p at*;generalize p*(mulP x y i k l c%1000000000)=a3 at*;generalize p*1000000000*(mulP x y i k l c/1000000000)=a4 at*;generalize p*mulP x y i k l c=a5 at*;generalize p*l.getD (i+k) 0=a6 at*;generalize p*c=a7 at*;omega
 ·rw[zbo Zo];exact h5 Zo
 ·rw[zbo Zo];exact h6 j hj'
 have hke:k=y.length:=Zo;subst hke;have e:mulP x y i y.length l c=c:=by unfold mulP;rw[h5 (Yc _),zbi y y.length 0 (Yc _)];simp
 rw[e];omega
def zcJ(x y:ZN)(i:Nat)(l:ZN):Prop:=
 l.length=x.length+y.length+1∧okL l∧valL l=valL (x.take i)*valL y∧∀j,i+y.length≤j→l.getD j 0=0
def zlL(x y:ZN):zcJ x y 0 (List.replicate (x.length+y.length+1) 0):=by
 have hv:∀n,valL (List.replicate n 0)=0:=by intro n;induction n with
  |zero=>rfl
  |succ n ih=>rw[Ya6,valL,ih]
 refine⟨Zs,fun d hd=>by have:=YaO hd;omega,by rw[hv];simp[valL],fun j _=>?_⟩;rw[Ya,Yck];split<;>rfl
def zvm {x y:ZN}{i:Nat}{l:ZN}(h:zcJ x y i l):zed x y i (valL l) 0 l 0:=by obtain⟨h1,h2,h3,h4⟩:=h;exact⟨h1,h2,Zo,by simp[valL],fun _=>h4 _ (Yc _),fun j hj=>h4 j Zo,fun h=>Zo⟩
def zvn {x y:ZN}{i:Nat}{l0 l:ZN}{c:Nat}(h0:zcJ x y i l0)(h:zed x y i (valL l0) (y.length+1) l c):zcJ x y (i+1) l:=by obtain⟨h1,h2,h3,h4,h5,h6,h7⟩:=h;refine⟨h1,h2,?_,fun j hj=>h6 j Zo⟩;rw[h7 rfl,Y4,YS,h0.2.2.1,Yp (l:=y) Zo]at h4;rw[h4,zae x i,Y5,YY]
def zpC {x y:ZN}{l:ZN}(h:zcJ x y x.length l):zao l=limbs (valL x*valL y):=by rw[zaM h.2.1,h.2.2.1,Ym]
end Go.Pl

namespace Go.Ten
def valL:ZN→Nat
 |[]=>0
 |d::l=>d+10*valL l
def okL(l:ZN):Prop:=∀d∈l,d<10
def zao:ZN→ZN
 |[]=>[]
 |d::l=>if d=0∧zao l=[]then []else d::zao l
def zbX:Nat→Nat→ZN
 |0,_=>[]
 |f+1,n=>if n=0 then []else n%10::zbX f (n/10)
def limbs(n:Nat):ZN:=zbX n n
def zdH:∀(f g n:Nat),n≤f→n≤g→zbX f n=zbX g n
 |0,g,n,h,_=>by have:n=0:=Zo;subst this;cases g<;>simp[zbX]
 |f+1,0,n,_,h=>by have:n=0:=Zo;subst this;simp[zbX]
 |f+1,g+1,n,h,h'=>by
  simp only[zbX];split
  ·rfl
  rw[zdH f g (n/10) Zo Zo]
theorem zaA:limbs 0=[]:=rfl
def zaH {n:Nat}(h:n≠0):limbs n=n%10::limbs (n/10):=by unfold limbs;obtain⟨m,rfl⟩:∃m,n=m+1:=⟨n-1,Zo⟩;rw[zbX,Ye h,zdH m ((m+1)/10) ((m+1)/10) Zo (Yc _)]
def limbs_nil {n:Nat}:limbs n=[]↔n=0:=by
 constructor
 ·intro h;by_cases h0:n=0
  ·exact h0
  rw[zaH h0]at h;cases h
 rintro rfl;rfl
def zD(n:Nat):valL (limbs n)=n:=by
 induction n using Nat.strongRecOn with
 |_ n ih=>
  by_cases h:n=0
  ·subst h;rfl
  rw[zaH h,valL,ih (n/10) Zo];omega
def zI(n:Nat):okL (limbs n):=by
 induction n using Nat.strongRecOn with
 |_ n ih=>
  by_cases h:n=0
  ·subst h;intro d hd;cases hd
  rw[zaH h];intro d hd;rcases Yy.1 hd with rfl|hd
  ·omega
  exact ih (n/10) Zo d hd
def okL_cons {d:Nat}{l:ZN}:okL (d::l)↔d<10∧okL l:=by simp[okL]
def okL_append {l r:ZN}:okL (l++r)↔okL l∧okL r:=by simp only[okL,Yam];exact⟨fun h=>⟨fun d hd=>h d (.inl hd),fun d hd=>h d (.inr hd)⟩,fun h d hd=>hd.elim (h.1 d) (h.2 d)⟩
def zaM {l:ZN}(h:okL l):zao l=limbs (valL l):=by
 induction l with
 |nil=>rfl
 |cons d l ih=>
  rw[okL_cons]at h;rw[zao,ih h.2,valL];have hd:=h.1;by_cases h0:d+10*valL l=0
  ·rw[h0,zaA,Yi ⟨Zo,limbs_nil.2 Zo⟩]
  rw[zaH h0,Ye (by rw[limbs_nil];omega)];congr 1
  ·omega
  congr 1;omega
def zax(l r:ZN):valL (l++r)=valL l+10^l.length*valL r:=by
 induction l with
 |nil=>simp[valL]
 |cons d l ih=>simp only[Ya2,valL,ih,Yv,YG,YM,←YY];rw[Yac (10^l.length) 10];omega
def zY {l:ZN}(h:okL l):valL l<10^l.length:=by
 induction l with
 |nil=>simp[valL]
 |cons d l ih=>
  rw[okL_cons]at h;have:=ih h.2;simp only[valL,Yv,YG];have h1:=h.1;have:10*valL l+10≤10*10^l.length:=by rw[←Nat.mul_succ];exact Y9 _ this
  omega
def zcD {l:ZN}{n:Nat}(hn:n≤l.length)(h:∀j,n≤j→l.getD j 0=0)(h2:n=0∨l.getD (n-1) 0≠0):zao l=l.take n:=by
 induction l generalizing n with
 |nil=>simp[zao]
 |cons d l ih=>
  cases n with
  |zero=>
   have hd:=h 0 (Yc _);have hl:zao l=[]:=by rw[ih (n:=0) (Yk _) (fun j _=>h (j+1) (Yk _)) (.inl rfl)];simp
   simp at hd;simp[zao,hd,hl]
  |succ n=>
   have hl:=ih (n:=n) (by simpa using hn) (fun j hj=>by have:=h (j+1) Zo;simpa using this) (by
    cases n with
    |zero=>exact .inl rfl
    |succ n=>right;rcases h2 with h2|h2;omega;simpa using h2)
   rw[zao,hl,List.take_succ_cons,Ye];rintro⟨hd,hnil⟩;rcases h2 with h2|h2
   ·omega
   cases n with
   |zero=>simp at h2;exact h2 hd
   |succ n=>
    have:l.length=0:=by have:=Ya1 List.length hnil;simp at this;simp[this]
    simp at hn;omega
def zcc {n:Nat}(h:n≠0):(limbs n).getD ((limbs n).length-1) 0≠0:=by
 induction n using Nat.strongRecOn with
 |_ n ih=>
  rw[zaH h];by_cases h1:n/10=0
  ·rw[h1,zaA];simp;omega
  have:=ih (n/10) Zo h1;have hne:limbs (n/10)≠[]:=by rw[ne_eq,limbs_nil];exact h1
  obtain⟨d,r,hdr⟩:=List.exists_cons_of_ne_nil hne;rw[hdr]at this ⊢;simpa using this
def zaC {n k:Nat}(h:n<10^k):(limbs n).length≤k:=by
 induction k generalizing n with
 |zero=>
  have:n=0:=by simpa using h
  subst this;simp[zaA]
 |succ k ih=>
  by_cases h0:n=0
  ·subst h0;simp[zaA]
  rw[zaH h0,Yv];have:n/10<10^k:=by rw[YaQ Zo];rw[YG]at h;exact h
  have:=ih this;omega
def getD_drop {α:Type}(l:List α)(a b:Nat)(d:α):(l.drop a).getD b d=l.getD (a+b) d:=by simp[Ya]
def getD_take {α:Type}(l:List α)(n i:Nat)(d:α)(h:i<n):(l.take n).getD i d=l.getD i d:=by simp[Ya,h]
def zbi {α:Type}(l:List α)(i:Nat)(d:α)(h:l.length≤i):l.getD i d=d:=by simp[Ya,h]
def zbO {α:Type}(l:List α)(n:Nat)(d:α)(h:n<l.length):l.take (n+1)=l.take n++[l.getD n d]:=by rw[YbX h,Ya,Yb h];rfl
def zA(F:Nat→Nat→Nat→Nat×Nat)(x y:ZN):Nat→ZN×Nat
 |0=>([],0)
 |i+1=>((zA F x y i).1++[(F (x.getD i 0) (y.getD i 0) (zA F x y i).2).1],(F (x.getD i 0) (y.getD i 0) (zA F x y i).2).2)
def zaD(F:Nat→Nat→Nat→Nat×Nat)(x y:ZN)(i:Nat):(zA F x y i).1.length=i:=by
 induction i with
 |zero=>rfl
 |succ i ih=>simp[zA,ih]
def zdf(F:Nat→Nat→Nat→Nat×Nat)(x y:ZN):ZN:=zao (zA F x y (max x.length y.length+1)).1
def zae(x:ZN)(i:Nat):valL (x.take (i+1))=valL (x.take i)+10^i*x.getD i 0:=by
 by_cases h:i<x.length
 ·rw[zbO x i 0 h,zax];have:(x.take i).length=i:=by simp;omega
  rw[this];simp[valL]
 rw[Yp Zo,Yp Zo,zbi _ _ _ Zo,Y4,YS]
def getD_lt {l:ZN}(h:okL l)(i:Nat):l.getD i 0<10:=by
 rw[Ya];by_cases hi:i<l.length
 ·rw[Yb hi];exact h _ (Y1 _)
 rw[Yo Zo];simp
def split_mul(p s:Nat):p*(s%10)+p*10*(s/10)=p*s:=by rw[YY,←YM,Nat.mod_add_div]
def zc7 {l:ZN}{i d:Nat}(h:l.length=i):valL (l++[d])=valL l+10^i*d:=by rw[zax,h];simp[valL]
def zbh(a b c:Nat):Nat×Nat:=((a+b+c)%10,(a+b+c)/10)
def zal(a b c:Nat):Nat×Nat:=((a+10-b-c)%10,1-(a+10-b-c)/10)
def zJ(k:Nat)(a _b c:Nat):Nat×Nat:=((a*k+c)%10,(a*k+c)/10)
def zbR {F:Nat→Nat→Nat→Nat×Nat}{x y:ZN}(hF:∀a b c,(F a b c).1<10)(i:Nat):okL (zA F x y i).1:=by
 induction i with
 |zero=>intro d hd;cases hd
 |succ i ih=>show okL (_++[_]);rw[okL_append];exact⟨ih,fun d hd=>by simp at hd;subst hd;exact hF _ _ _⟩
def zjK(a b c:Nat):(zbh a b c).1<10:=YaL _ Zo
def zdF(a b c:Nat):(zal a b c).1<10:=YaL _ Zo
def zeQ(k a b c:Nat):(zJ k a b c).1<10:=YaL _ Zo
def zjJ(x y:ZN)(i:Nat):valL (zA zbh x y i).1+10^i*(zA zbh x y i).2=valL (x.take i)+valL (y.take i):=by
 induction i with
 |zero=>simp[zA,valL]
 |succ i ih=>rw[zae,zae];show valL (_++[_])+_*(zbh _ _ _).2=_;rw[zc7 (zaD zbh x y i)];show _+_*((x.getD i 0+y.getD i 0+(zA zbh x y i).2)%10)+_*((x.getD i 0+y.getD i 0+(zA zbh x y i).2)/10)=_;rw[YG];generalize (10:Nat)^i=p at*;have h:=split_mul p (x.getD i 0+y.getD i 0+(zA zbh x y i).2);generalize x.getD i 0=a at*;generalize y.getD i 0=b at*;generalize (zA zbh x y i).2=c at*;rw[YM,YM]at h;omega
def zpw {x y:ZN}(hx:okL x)(hy:okL y):zdf zbh x y=limbs (valL x+valL y):=by
 unfold zdf;generalize hN:max x.length y.length=N;rw[zaM (zbR zjK _)];have h:=zjJ x y (N+1);rw[Yp Zo,Yp Zo]at h;have h1:=zY hx;have h2:=zY hy;have h3:(10:Nat)^x.length≤10^N:=YL Zo Zo;have h4:(10:Nat)^y.length≤10^N:=YL Zo Zo;rw[YG]at h;generalize (10:Nat)^N=p at*;have h5:(zA zbh x y (N+1)).2=0:=by
  rcases YR (zA zbh x y (N+1)).2 with h0|h0
  ·exact h0
  have:p*10*1≤p*10*(zA zbh x y (N+1)).2:=Y9 _ h0;omega
 rw[h5,Y4,YS]at h;rw[h]
def zch(x y:ZN)(i:Nat):(zA zal x y i).2≤1:=by
 cases i with
 |zero=>simp[zA]
 |succ i=>show (zal _ _ _).2≤1;unfold zal;omega
def zhd(x y:ZN)(hx:okL x)(hy:okL y)(i:Nat):valL (zA zal x y i).1+valL (y.take i)=valL (x.take i)+10^i*(zA zal x y i).2:=by
 induction i with
 |zero=>simp[zA,valL]
 |succ i ih=>
  rw[zae,zae];have hc:=zch x y i;have ha:=getD_lt hx i;have hb:=getD_lt hy i;show valL (_++[_])+_=_+_*(zal _ _ _).2;rw[zc7 (zaD zal x y i)];show _+_*((x.getD i 0+10-y.getD i 0-(zA zal x y i).2)%10)+_=_+_*(1-(x.getD i 0+10-y.getD i 0-(zA zal x y i).2)/10);rw[YG];generalize (10:Nat)^i=p at*;generalize x.getD i 0=a at*;generalize y.getD i 0=b at*;generalize (zA zal x y i).2=c at*;by_cases h:a+10-b-c<10
  ·have e1:(a+10-b-c)%10=a+10-b-c:=Ybi h;have e2:(a+10-b-c)/10=0:=Yb4 h;rw[e1,e2];have h2:p*(a+10-b-c)+p*b+p*c=p*a+p*10:=by rw[←YM,←YM,←YM];congr 1;omega
   simp only[YbW,Yas];omega
  have e1:(a+10-b-c)%10=a-b-c:=Zo;have e2:(a+10-b-c)/10=1:=Zo;rw[e1,e2];have h2:p*(a-b-c)+p*b+p*c=p*a:=by rw[←YM,←YM];congr 1;omega
  simp only[YaK,Y4];omega
def zlN {x y:ZN}(hx:okL x)(hy:okL y)(hle:valL y≤valL x):zdf zal x y=limbs (valL x-valL y):=by
 unfold zdf;generalize hN:max x.length y.length=N;rw[zaM (zbR zdF _)];have h:=zhd x y hx hy (N+1);rw[Yp Zo,Yp Zo]at h;have h6:=zY (zbR (x:=x) (y:=y) zdF (N+1));rw[zaD]at h6;have h7:=zch x y (N+1);generalize (10:Nat)^(N+1)=p at*;have h5:(zA zal x y (N+1)).2=0:=by
  rcases YR (zA zal x y (N+1)).2 with h0|h0
  ·exact h0
  have:(zA zal x y (N+1)).2=1:=Zo;rw[this,Yas]at h;omega
 rw[h5,Y4,YS]at h;congr 1;omega
def zgO {k:Nat}(hk:k<10)(x:ZN)(hx:okL x)(y:ZN)(i:Nat):(zA (zJ k) x y i).2<10:=by
 induction i with
 |zero=>simp[zA]
 |succ i ih=>have ha:=getD_lt hx i;have:x.getD i 0*k≤9*9:=Ybd Zo Zo;show (x.getD i 0*k+(zA (zJ k) x y i).2)/10<10;generalize x.getD i 0*k=q at*;omega
def zgN(k:Nat)(x y:ZN)(i:Nat):valL (zA (zJ k) x y i).1+10^i*(zA (zJ k) x y i).2=valL (x.take i)*k:=by
 induction i with
 |zero=>simp[zA,valL]
 |succ i ih=>rw[zae];show valL ((zA (zJ k) x y i).1++[(zJ k (x.getD i 0) (y.getD i 0) (zA (zJ k) x y i).2).1])+_*(zJ k (x.getD i 0) (y.getD i 0) (zA (zJ k) x y i).2).2=_;rw[zc7 (zaD (zJ k) x y i)];show _+_*((x.getD i 0*k+(zA (zJ k) x y i).2)%10)+_*((x.getD i 0*k+(zA (zJ k) x y i).2)/10)=_;rw[YG,Y5];generalize (10:Nat)^i=p at*;have h:=split_mul p (x.getD i 0*k+(zA (zJ k) x y i).2);rw[YM,←YY]at h;generalize p*x.getD i 0*k=q at*;omega
def zgM {k:Nat}{x:ZN}(hk:k<10)(hx:okL x):zdf (zJ k) x []=limbs (valL x*k):=by
 unfold zdf;generalize hN:max x.length ([]:ZN).length=N;have hN':x.length≤N:=Zo;rw[zaM (zbR (zeQ k) _)];have h:=zgN k x [] (N+1);rw[Yp Zo]at h;have h1:=zY hx;have h3:(10:Nat)^x.length≤10^N:=YL Zo Zo;have h5:(zA (zJ k) x [] (N+1)).2=0:=by
  rcases YR (zA (zJ k) x [] (N+1)).2 with h0|h0
  ·exact h0
  exfalso;have h8:valL x*k<10^(N+1):=by rw[YG];exact Yu (Ya3 (Yu h1 h3) (YbY hk) Zo) (Yc _)
  have h9:10^(N+1)*1≤10^(N+1)*(zA (zJ k) x [] (N+1)).2:=Y9 _ h0;generalize (10:Nat)^(N+1)=p at*;omega
 rw[h5,Y4,YS]at h;rw[h]
def zaI {x y:Nat}(h:(limbs x).length<(limbs y).length):x<y:=by
 rcases YaJ x y with h1|h1
 ·exact h1
 have h2:=zY (zI x);rw[zD]at h2;have:=zaC (Ybb h1 h2);omega
def zba(l:ZN)(k:Nat)(hk:k<l.length):valL l=valL (l.take k)+10^k*(l.getD k 0+10*valL (l.drop (k+1))):=by
 have e:l=l.take k++(l.getD k 0::l.drop (k+1)):=by
  conv=>lhs;rw[←Yaf k l]
  congr 1;rw[Yaw hk,Ya,Yb hk];rfl
 have h:(l.take k).length=k:=by simp;omega
 conv=>lhs;rw[e]
 rw[zax,h,valL]
def zfm {l r:ZN}{k:Nat}(ho:okL l)(hlen:l.length=r.length)(hk:k<l.length)(hd:∀j,k<j→l.getD j 0=r.getD j 0)(h:l.getD k 0<r.getD k 0):valL l<valL r:=by
 have e:l.drop (k+1)=r.drop (k+1):=by
  apply YaI;intro i;rw[Y8,Y8];have:=hd (k+1+i) Zo;rw[Ya,Ya]at this;by_cases hi:k+1+i<l.length
  ·rw[Yb hi,Yb Zo]at this ⊢;simpa using this
  rw[Yo Zo,Yo Zo]
 rw[zba l k hk,zba r k Zo,e];have h1:valL (l.take k)<10^k:=by
  have:=zY (l:=l.take k) (fun d hd=>ho d (Ybp hd));have h2:(l.take k).length=k:=by simp;omega
  rwa [h2]at this
 generalize (10:Nat)^k=p at*;generalize valL (r.drop (k+1))=q at*;have h3:p*(l.getD k 0+10*q)+p≤p*(r.getD k 0+10*q):=by rw[←Nat.mul_succ];exact Y9 _ Zo
 omega
def zme {l r:ZN}(hlen:l.length=r.length)(hd:∀j,l.getD j 0=r.getD j 0):l=r:=by
 apply YaI;intro i;have:=hd i;rw[Ya,Ya]at this;by_cases hi:i<l.length
 ·rw[Yb hi,Yb Zo]at this ⊢;simpa using this
 rw[Yo Zo,Yo Zo]
def zpI {n k:Nat}(h:n<10^k):(limbs n).length≤k:=zaC (Yu h (Nat.pow_le_pow_left Zo k))
def zlS {x y k:Nat}(hx:(limbs x).length≤k)(hy:(limbs y).length≤k):(limbs (x+y)).length≤k+1:=by apply zaC;have h1:=zY (zI x);have h2:=zY (zI y);rw[zD]at h1 h2;have h3:(10:Nat)^(limbs x).length≤10^k:=YL Zo hx;have h4:(10:Nat)^(limbs y).length≤10^k:=YL Zo hy;rw[YG];generalize (10:Nat)^k=p at*;omega
def zlQ {x y k:Nat}(hx:(limbs x).length≤k):(limbs (x-y)).length≤k:=by apply zaC;have h1:=zY (zI x);rw[zD]at h1;have h3:(10:Nat)^(limbs x).length≤10^k:=YL Zo hx;omega
def zlR {x y j k:Nat}(hx:(limbs x).length≤j)(hy:(limbs y).length≤k):(limbs (x*y)).length≤j+k:=by apply zaC;have h1:=zY (zI x);have h2:=zY (zI y);rw[zD]at h1 h2;have h3:(10:Nat)^(limbs x).length≤10^j:=YL Zo hx;have h4:(10:Nat)^(limbs y).length≤10^k:=YL Zo hy;rw[YbP];exact Ya3 (Yu h1 h3) (YbY (Yu h2 h4)) (Ycg Zo)
def zjt {l:ZN}{j d:Nat}(hj:j<l.length):valL (l.set j d)+10^j*l.getD j 0=valL l+10^j*d:=by
 have h1:=zba l j hj;have h2:=zba (l.set j d) j (by simpa using hj);have e1:(l.set j d).take j=l.take j:=by rw[Ybt (Yc _)]
 have e2:(l.set j d).drop (j+1)=l.drop (j+1):=by rw[YbL Zo]
 have e3:(l.set j d).getD j 0=d:=by rw[Ya,Ya4 (by simpa using hj)];rfl
 rw[e1,e2,e3]at h2;rw[h1,h2];generalize (10:Nat)^j=p at*;generalize 10*valL (l.drop (j+1))=q at*;rw[YM,YM];omega
def zbo {l:ZN}{i j d:Nat}(h:i≠j):(l.set i d).getD j 0=l.getD j 0:=by rw[Ya,List.getElem?_set_ne h,Ya]
def zel {l:ZN}{i d:Nat}(h:okL l)(hd:d<10):okL (l.set i d):=by
 intro x hx;rcases Ycf hx with h1|h1
 ·exact h x h1
 omega
def zed(x y:ZN)(i V0 k:Nat)(l:ZN)(c:Nat):Prop:=
 l.length=x.length+y.length+1∧okL l∧c<10∧valL l+10^(i+k)*c=V0+10^i*(x.getD i 0*valL (y.take k))∧
 (k≤y.length→l.getD (i+y.length) 0=0)∧(∀j,i+y.length<j→l.getD j 0=0)∧(k=y.length+1→c=0)
def mulP(x y:ZN)(i k:Nat)(l:ZN)(c:Nat):Nat:=l.getD (i+k) 0+c+x.getD i 0*y.getD k 0
def zj4 {x y:ZN}{i k:Nat}{l:ZN}{c:Nat}(hx:okL x)(hy:okL y)(hl:okL l)(hc:c<10):mulP x y i k l c<100∧x.getD i 0*y.getD k 0≤81:=by have h1:=getD_lt hx i;have h2:=getD_lt hy k;have h3:=getD_lt hl (i+k);have h4:x.getD i 0*y.getD k 0≤9*9:=Ybd Zo Zo;unfold mulP;generalize x.getD i 0*y.getD k 0=q at*;omega
def zpB {x y:ZN}{i V0 k:Nat}{l:ZN}{c:Nat}(hx:okL x)(hy:okL y)(hi:i<x.length)(hk:k≤y.length)(h:zed x y i V0 k l c):zed x y i V0 (k+1) (l.set (i+k) (mulP x y i k l c%10)) (mulP x y i k l c/10):=by
 obtain⟨h1,h2,h3,h4,h5,h6,h7⟩:=h;have hb:=(zj4 (i:=i) (k:=k) hx hy h2 h3).1;have hj:i+k<l.length:=Zo;refine⟨by simpa using h1,zel h2 (YaL _ Zo),Zo,?_,fun hk'=>?_,fun j hj'=>?_,fun hk'=>?_⟩
 ·have hs:=zjt (d:=mulP x y i k l c%10) hj;rw[zae,←YO,YG];have hp:10^(i+k)=(10:Nat)^i*10^k:=YbP _ _ _;have hsp:=split_mul (10^(i+k)) (mulP x y i k l c);have hexp:10^(i+k)*mulP x y i k l c=10^(i+k)*l.getD (i+k) 0+10^(i+k)*c+10^i*(x.getD i 0*(10^k*y.getD k 0)):=by rw[hp];unfold mulP;rw[YM,YM];congr 1;rw[YY];congr 1;rw[←YY,←YY,Yac (10^k) (x.getD i 0)]
  rw[YM (x.getD i 0),YM (10^i)];generalize 10^i*(x.getD i 0*valL (y.take k))=a1 at*;generalize 10^i*(x.getD i 0*(10^k*y.getD k 0))=a2 at*;generalize (10:Nat)^(i+k)=p at*;generalize p*(mulP x y i k l c%10)=a3 at*;generalize p*10*(mulP x y i k l c/10)=a4 at*;generalize p*mulP x y i k l c=a5 at*;generalize p*l.getD (i+k) 0=a6 at*;generalize p*c=a7 at*;omega
 ·rw[zbo Zo];exact h5 Zo
 ·rw[zbo Zo];exact h6 j hj'
 have hke:k=y.length:=Zo;subst hke;have e:mulP x y i y.length l c=c:=by unfold mulP;rw[h5 (Yc _),zbi y y.length 0 (Yc _)];simp
 rw[e];omega
def zcJ(x y:ZN)(i:Nat)(l:ZN):Prop:=
 l.length=x.length+y.length+1∧okL l∧valL l=valL (x.take i)*valL y∧∀j,i+y.length≤j→l.getD j 0=0
def zlL(x y:ZN):zcJ x y 0 (List.replicate (x.length+y.length+1) 0):=by
 have hv:∀n,valL (List.replicate n 0)=0:=by intro n;induction n with
  |zero=>rfl
  |succ n ih=>rw[Ya6,valL,ih]
 refine⟨Zs,fun d hd=>by have:=YaO hd;omega,by rw[hv];simp[valL],fun j _=>?_⟩;rw[Ya,Yck];split<;>rfl
def zvm {x y:ZN}{i:Nat}{l:ZN}(h:zcJ x y i l):zed x y i (valL l) 0 l 0:=by obtain⟨h1,h2,h3,h4⟩:=h;exact⟨h1,h2,Zo,by simp[valL],fun _=>h4 _ (Yc _),fun j hj=>h4 j Zo,fun h=>Zo⟩
def zvn {x y:ZN}{i:Nat}{l0 l:ZN}{c:Nat}(h0:zcJ x y i l0)(h:zed x y i (valL l0) (y.length+1) l c):zcJ x y (i+1) l:=by obtain⟨h1,h2,h3,h4,h5,h6,h7⟩:=h;refine⟨h1,h2,?_,fun j hj=>h6 j Zo⟩;rw[h7 rfl,Y4,YS,h0.2.2.1,Yp (l:=y) Zo]at h4;rw[h4,zae x i,Y5,YY]
def zpC {x y:ZN}{l:ZN}(h:zcJ x y x.length l):zao l=limbs (valL x*valL y):=by rw[zaM h.2.1,h.2.2.1,Ym]
end Go.Ten
