import Derived.Test.YtbdlfegfepggnaaGreatDoorQNat1
set_option linter.all false
set_option maxHeartbeats 16000000
set_option maxRecDepth 100000
noncomputable section
namespace Go.Proofs
open Tryz Go.Ab Go.Pl
def ziF:Prop:=∀n:Nat,(limbs n).length≤100000→PCall prog 175 [.fs (nats .u64 (limbs n)) (limbs n).length] (.ret (.str (dec n)))
def cText:ZV:=zC (fun n:Nat=>[.fs (nats .u64 (limbs n)) (limbs n).length]) (fun n=>(limbs n).length≤100000) fun n=>.ret (.str (dec n))
def cText_eq(n m:Nat)(hm:m=(limbs n).length)(h:(limbs n).length≤100000):cText [.fs (nats .u64 (limbs n)) m]=some (.ret (.str (dec n))):=by subst hm;exact zo (pat:=fun n:Nat=>[V.fs (nats .u64 (limbs n)) (limbs n).length]) (fun x y h=>by simp at h;exact zch (zaI h.1)) n h
def zlF(hT:ziF):ZC cText 175:=zn hT
def zAy:ZV:=zC (fun a:ZL=>[.str a]) (fun a=>a.all zaT=true∧a.length≤1000) fun a=>.ret (.fs (nats .u64 (limbs (valD a))) (limbs (valD a)).length)
def zvt(a:ZL)(h1:a.all zaT=true)(h2:a.length≤1000):zAy [.str a]=some (.ret (.fs (nats .u64 (limbs (valD a))) (limbs (valD a)).length)):=zo (pat:=fun a:ZL=>[V.str a]) (fun x y h=>by simpa using h) a ⟨h1,h2⟩
def zdv:ZC zAy 154:=zn fun a h=>zAL a h.1 h.2
def cPlusB:ZV:=zC (fun p:Nat×Nat=>[.fs (nats .u64 (limbs p.1)) (limbs p.1).length,.fs (nats .u64 (limbs p.2)) (limbs p.2).length]) (fun p=>(limbs p.1).length≤1000∧(limbs p.2).length≤1000) fun p=>.ret (.fs (nats .u64 (limbs (p.1+p.2))) (limbs (p.1+p.2)).length)
def zz6(x y n m:Nat)(hn:n=(limbs x).length)(hm:m=(limbs y).length)(hx:(limbs x).length≤1000)(hy:(limbs y).length≤1000):cPlusB [.fs (nats .u64 (limbs x)) n,.fs (nats .u64 (limbs y)) m]=some (.ret (.fs (nats .u64 (limbs (x+y))) (limbs (x+y)).length)):=by subst hn hm;exact zo (pat:=fun p:Nat×Nat=>[V.fs (nats .u64 (limbs p.1)) (limbs p.1).length,.fs (nats .u64 (limbs p.2)) (limbs p.2).length]) (fun _ _ h=>zke h) (x,y) ⟨hx,hy⟩
def zz5:ZC cPlusB 173:=zn fun p h=>plusB_ok p.1 p.2 h.1 h.2
def zAb:ZV:=zC (fun p:Nat×Nat=>[.fs (nats .u64 (limbs p.1)) (limbs p.1).length,.fs (nats .u64 (limbs p.2)) (limbs p.2).length]) (fun p=>(limbs p.1).length≤1000∧(limbs p.2).length≤1000∧p.2≤p.1) fun p=>.ret (.fs (nats .u64 (limbs (p.1-p.2))) (limbs (p.1-p.2)).length)
def zvl(x y n m:Nat)(hn:n=(limbs x).length)(hm:m=(limbs y).length)(hx:(limbs x).length≤1000)(hy:(limbs y).length≤1000)(hle:y≤x):zAb [.fs (nats .u64 (limbs x)) n,.fs (nats .u64 (limbs y)) m]=some (.ret (.fs (nats .u64 (limbs (x-y))) (limbs (x-y)).length)):=by subst hn hm;exact zo (pat:=fun p:Nat×Nat=>[V.fs (nats .u64 (limbs p.1)) (limbs p.1).length,.fs (nats .u64 (limbs p.2)) (limbs p.2).length]) (fun _ _ h=>zke h) (x,y) ⟨hx,hy,hle⟩
def zvk:ZC zAb 176:=zn fun p h=>zxU p.1 p.2 h.1 h.2.1 h.2.2
attribute [go_sem] cText_eq zvt zz6 zvl
def limV(n:Nat):V:=if 1000<(dec n).length then .tup [.str [],.int .i64 2]else .tup [.str (dec n),.int .i64 0]
def ztY(hT:ziF)(n:Nat)(hn:(limbs n).length≤100000):PCall prog 155 [.fs (nats .u64 (limbs n)) (limbs n).length] (.ret (limV n)):=by
 refine Xc (rs:=[.tmp 2,.tmp 3]) [0,2,3,4,9] [] mixed (zg (zlF hT) zh) (zf) call155 func155 rfl ntmps155 rfl ?_;simp(disch:=try exact Zq)only[go_sem];refine Xb (fun h1=>?_) (fun h1=>?_)
 ·have:1000<(dec n).length:=Zo;simp only[go_sem,limV,this]
 have:¬1000<(dec n).length:=Zo;simp only[go_sem,limV,this]
def zsl:ZV:=zC (fun n:Nat=>[.fs (nats .u64 (limbs n)) (limbs n).length]) (fun n=>(limbs n).length≤100000) fun n=>.ret (limV n)
def zqg(n m:Nat)(hm:m=(limbs n).length)(h:(limbs n).length≤100000):zsl [.fs (nats .u64 (limbs n)) m]=some (.ret (limV n)):=by subst hm;exact zo (pat:=fun n:Nat=>[V.fs (nats .u64 (limbs n)) (limbs n).length]) (fun x y h=>by simp at h;exact zch (zaI h.1)) n h
def ziu(hT:ziF):ZC zsl 155:=zn (ztY hT)
attribute [go_sem] zqg
def zah {a:ZL}(h:zH a=true):a.all zaT=true:=(validN_iff.1 h).2
def zW {a:ZL}(h:zH a=true):a.length≤1000:=(validN_iff.1 h).1.2
def errV(e:Int):V:=.tup [.str [],.int .i64 e]
def addV(a b:ZL):V:=if zH a=true∧zH b=true then limV (valD a+valD b)else errV 1
def zg2(n:Nat):∃s e,limV n=.tup [.str s,.int .i64 e]:=by unfold limV;split<;>exact⟨_,_,rfl⟩
def zxR(hT:ziF)(a b:ZL):PCall prog 150 [.str a,.str b] (.ret (addV a b)):=by
 refine Xc (rs:=[.tmp 4,.tmp 5]) [0,1,4,5,13] [] mixed (zg zdt (zg zdv (zg zz5 (zg (ziu hT) zh)))) (zf) call150 func150 rfl ntmps150 rfl ?_;by_cases ha:zH a=true
 ·by_cases hb:zH b=true
  ·have da:=zah ha;have la:=zW ha;have db:=zah hb;have lb:=zW hb;have ba:=zbO da la;have bb:=zbO db lb;have bs:=zm6 ba bb;obtain⟨s,e,hse⟩:=zg2 (valD a+valD b);simp(disch:=try exact Zq)only[go_sem,addV,ha,hb,hse]
  simp only[go_sem,addV,ha,hb,errV]
 simp only[go_sem,addV,ha,errV]
end Go.Proofs

namespace Go.Pl
def zkw {l:ZN}{j d:Nat}(hj:j<l.length):valL (l.set j d)+1000000000^j*l.getD j 0=valL l+1000000000^j*d:=by
 have h1:=zbq l j hj;have h2:=zbq (l.set j d) j (by simpa using hj);have e1:(l.set j d).take j=l.take j:=by rw[YbN (Yc _)]
 have e2:(l.set j d).drop (j+1)=l.drop (j+1):=by rw[Ycc Zo]
 have e3:(l.set j d).getD j 0=d:=by rw[Ya,Ybm (by simpa using hj)];rfl
 rw[e1,e2,e3]at h2;rw[h1,h2];generalize (1000000000:Nat)^j=p at*;generalize 1000000000*valL (l.drop (j+1))=q at*;rw[YP,YP];omega
def zbI {l:ZN}{i j d:Nat}(h:i≠j):(l.set i d).getD j 0=l.getD j 0:=by rw[Ya,List.getElem?_set_ne h,Ya]
def ze3 {l:ZN}{i d:Nat}(h:okL l)(hd:d<1000000000):okL (l.set i d):=by
 intro x hx;rcases Ycz hx with h1|h1
 ·exact h x h1
 omega
def mulInv(x y:ZN)(i V0 k:Nat)(l:ZN)(c:Nat):Prop:=
 l.length=x.length+y.length+1∧okL l∧c<1000000000∧valL l+1000000000^(i+k)*c=V0+1000000000^i*(x.getD i 0*valL (y.take k))∧
 (k≤y.length→l.getD (i+y.length) 0=0)∧(∀j,i+y.length<j→l.getD j 0=0)∧(k=y.length+1→c=0)
def mulP(x y:ZN)(i k:Nat)(l:ZN)(c:Nat):Nat:=l.getD (i+k) 0+c+x.getD i 0*y.getD k 0
def mulP_lt {x y:ZN}{i k:Nat}{l:ZN}{c:Nat}(hx:okL x)(hy:okL y)(hl:okL l)(hc:c<1000000000):mulP x y i k l c<1000000000000000000∧x.getD i 0*y.getD k 0≤999999998000000001:=by have h1:=getD_lt hx i;have h2:=getD_lt hy k;have h3:=getD_lt hl (i+k);have h4:x.getD i 0*y.getD k 0≤999999999*999999999:=Ybk Zo Zo;unfold mulP;generalize x.getD i 0*y.getD k 0=q at*;omega
def mul_step {x y:ZN}{i V0 k:Nat}{l:ZN}{c:Nat}(hx:okL x)(hy:okL y)(hi:i<x.length)(hk:k≤y.length)(h:mulInv x y i V0 k l c):mulInv x y i V0 (k+1) (l.set (i+k) (mulP x y i k l c%1000000000)) (mulP x y i k l c/1000000000):=by
 obtain⟨h1,h2,h3,h4,h5,h6,h7⟩:=h;have hb:=(mulP_lt (i:=i) (k:=k) hx hy h2 h3).1;have hj:i+k<l.length:=Zo;refine⟨by simpa using h1,ze3 h2 (YaJ _ Zo),Zo,?_,fun hk'=>?_,fun j hj'=>?_,fun hk'=>?_⟩
 ·have hs:=zkw (d:=mulP x y i k l c%1000000000) hj;rw[zai,←YU,YM];have hp:1000000000^(i+k)=(1000000000:Nat)^i*1000000000^k:=Ycp _ _ _;have hsp:=split_mul (1000000000^(i+k)) (mulP x y i k l c);have hexp:1000000000^(i+k)*mulP x y i k l c=1000000000^(i+k)*l.getD (i+k) 0+1000000000^(i+k)*c+1000000000^i*(x.getD i 0*(1000000000^k*y.getD k 0)):=by rw[hp];unfold mulP;rw[YP,YP];congr 1;rw[Yad];congr 1;rw[←Yad,←Yad,Yav (1000000000^k) (x.getD i 0)]
  rw[YP (x.getD i 0),YP (1000000000^i)];generalize 1000000000^i*(x.getD i 0*valL (y.take k))=a1 at*;generalize 1000000000^i*(x.getD i 0*(1000000000^k*y.getD k 0))=a2 at*;generalize (1000000000:Nat)^(i+k)=p at*;generalize p*(mulP x y i k l c%1000000000)=a3 at*;generalize p*1000000000*(mulP x y i k l c/1000000000)=a4 at*;generalize p*mulP x y i k l c=a5 at*;generalize p*l.getD (i+k) 0=a6 at*;generalize p*c=a7 at*;omega
 ·rw[zbI Zo];exact h5 Zo
 ·rw[zbI Zo];exact h6 j hj'
 have hke:k=y.length:=Zo;subst hke;have e:mulP x y i y.length l c=c:=by unfold mulP;rw[h5 (Yc _),za2 y y.length 0 (Yc _)];simp
 rw[e];omega
def mulOut(x y:ZN)(i:Nat)(l:ZN):Prop:=
 l.length=x.length+y.length+1∧okL l∧valL l=valL (x.take i)*valL y∧∀j,i+y.length≤j→l.getD j 0=0
def mul_start(x y:ZN):mulOut x y 0 (List.replicate (x.length+y.length+1) 0):=by
 have hv:∀n,valL (List.replicate n 0)=0:=by intro n;induction n with
  |zero=>rfl
  |succ n ih=>rw[Ybo,valL,ih]
 refine⟨Zs,fun d hd=>by have:=YaO hd;omega,by rw[hv];simp[valL],fun j _=>?_⟩;rw[Ya,Ycj];split<;>rfl
def mul_row {x y:ZN}{i:Nat}{l:ZN}(h:mulOut x y i l):mulInv x y i (valL l) 0 l 0:=by obtain⟨h1,h2,h3,h4⟩:=h;exact⟨h1,h2,Zo,by simp[valL],fun _=>h4 _ (Yc _),fun j hj=>h4 j Zo,fun h=>Zo⟩
def mul_end {x y:ZN}{i:Nat}{l0 l:ZN}{c:Nat}(h0:mulOut x y i l0)(h:mulInv x y i (valL l0) (y.length+1) l c):mulOut x y (i+1) l:=by obtain⟨h1,h2,h3,h4,h5,h6,h7⟩:=h;refine⟨h1,h2,?_,fun j hj=>h6 j Zo⟩;rw[h7 rfl,Y9,Y3,h0.2.2.1,Yl (l:=y) Zo]at h4;rw[h4,zai x i,Yal,Yad]
def zrl {x y:ZN}{l:ZN}(h:mulOut x y x.length l):zaw l=limbs (valL x*valL y):=by rw[za0 h.2.1,h.2.2.1,Ym]
end Go.Pl

namespace Go.Ten
def valL:ZN→Nat
 |[]=>0
 |d::l=>d+10*valL l
def okL(l:ZN):Prop:=∀d∈l,d<10
def zaw:ZN→ZN
 |[]=>[]
 |d::l=>if d=0∧zaw l=[]then []else d::zaw l
def zci:Nat→Nat→ZN
 |0,_=>[]
 |f+1,n=>if n=0 then []else n%10::zci f (n/10)
def limbs(n:Nat):ZN:=zci n n
def zeh:∀(f g n:Nat),n≤f→n≤g→zci f n=zci g n
 |0,g,n,h,_=>by have:n=0:=Zo;subst this;cases g<;>simp[zci]
 |f+1,0,n,_,h=>by have:n=0:=Zo;subst this;simp[zci]
 |f+1,g+1,n,h,h'=>by
  simp only[zci];split
  ·rfl
  rw[zeh f g (n/10) Zo Zo]
theorem zaL:limbs 0=[]:=rfl
def zaU {n:Nat}(h:n≠0):limbs n=n%10::limbs (n/10):=by unfold limbs;obtain⟨m,rfl⟩:∃m,n=m+1:=⟨n-1,Zo⟩;rw[zci,Yh h,zeh m ((m+1)/10) ((m+1)/10) Zo (Yc _)]
def limbs_nil {n:Nat}:limbs n=[]↔n=0:=by
 constructor
 ·intro h;by_cases h0:n=0
  ·exact h0
  rw[zaU h0]at h;cases h
 rintro rfl;rfl
def zG(n:Nat):valL (limbs n)=n:=by
 induction n using Nat.strongRecOn with
 |_ n ih=>
  by_cases h:n=0
  ·subst h;rfl
  rw[zaU h,valL,ih (n/10) Zo];omega
def zI(n:Nat):okL (limbs n):=by
 induction n using Nat.strongRecOn with
 |_ n ih=>
  by_cases h:n=0
  ·subst h;intro d hd;cases hd
  rw[zaU h];intro d hd;rcases Yy.1 hd with rfl|hd
  ·omega
  exact ih (n/10) Zo d hd
def okL_cons {d:Nat}{l:ZN}:okL (d::l)↔d<10∧okL l:=by simp[okL]
def okL_append {l r:ZN}:okL (l++r)↔okL l∧okL r:=by simp only[okL,Yar];exact⟨fun h=>⟨fun d hd=>h d (.inl hd),fun d hd=>h d (.inr hd)⟩,fun h d hd=>hd.elim (h.1 d) (h.2 d)⟩
def za0 {l:ZN}(h:okL l):zaw l=limbs (valL l):=by
 induction l with
 |nil=>rfl
 |cons d l ih=>
  rw[okL_cons]at h;rw[zaw,ih h.2,valL];have hd:=h.1;by_cases h0:d+10*valL l=0
  ·rw[h0,zaL,Yi ⟨Zo,limbs_nil.2 Zo⟩]
  rw[zaU h0,Yh (by rw[limbs_nil];omega)];congr 1
  ·omega
  congr 1;omega
def zaG(l r:ZN):valL (l++r)=valL l+10^l.length*valL r:=by
 induction l with
 |nil=>simp[valL]
 |cons d l ih=>simp only[Ya4,valL,ih,Yn,YM,YP,←Yad];rw[Yav (10^l.length) 10];omega
def valL_lt {l:ZN}(h:okL l):valL l<10^l.length:=by
 induction l with
 |nil=>simp[valL]
 |cons d l ih=>
  rw[okL_cons]at h;have:=ih h.2;simp only[valL,Yn,YM];have h1:=h.1;have:10*valL l+10≤10*10^l.length:=by rw[←Nat.mul_succ];exact Y8 _ this
  omega
def zdc {l:ZN}{n:Nat}(hn:n≤l.length)(h:∀j,n≤j→l.getD j 0=0)(h2:n=0∨l.getD (n-1) 0≠0):zaw l=l.take n:=by
 induction l generalizing n with
 |nil=>simp[zaw]
 |cons d l ih=>
  cases n with
  |zero=>
   have hd:=h 0 (Yc _);have hl:zaw l=[]:=by rw[ih (n:=0) (Yk _) (fun j _=>h (j+1) (Yk _)) (.inl rfl)];simp
   simp at hd;simp[zaw,hd,hl]
  |succ n=>
   have hl:=ih (n:=n) (by simpa using hn) (fun j hj=>by have:=h (j+1) Zo;simpa using this) (by
    cases n with
    |zero=>exact .inl rfl
    |succ n=>right;rcases h2 with h2|h2;omega;simpa using h2)
   rw[zaw,hl,Ycb,Yh];rintro⟨hd,hnil⟩;rcases h2 with h2|h2
   ·omega
   cases n with
   |zero=>simp at h2;exact h2 hd
   |succ n=>
    have:l.length=0:=by have:=YaZ List.length hnil;simp at this;simp[this]
    simp at hn;omega
def zcB {n:Nat}(h:n≠0):(limbs n).getD ((limbs n).length-1) 0≠0:=by
 induction n using Nat.strongRecOn with
 |_ n ih=>
  rw[zaU h];by_cases h1:n/10=0
  ·rw[h1,zaL];simp;omega
  have:=ih (n/10) Zo h1;have hne:limbs (n/10)≠[]:=by rw[ne_eq,limbs_nil];exact h1
  obtain⟨d,r,hdr⟩:=List.exists_cons_of_ne_nil hne;rw[hdr]at this ⊢;simpa using this
def zaO {n k:Nat}(h:n<10^k):(limbs n).length≤k:=by
 induction k generalizing n with
 |zero=>
  have:n=0:=by simpa using h
  subst this;simp[zaL]
 |succ k ih=>
  by_cases h0:n=0
  ·subst h0;simp[zaL]
  rw[zaU h0,Yn];have:n/10<10^k:=by rw[YaQ Zo];rw[YM]at h;exact h
  have:=ih this;omega
def getD_drop {α:Type}(l:List α)(a b:Nat)(d:α):(l.drop a).getD b d=l.getD (a+b) d:=by simp[Ya]
def getD_take {α:Type}(l:List α)(n i:Nat)(d:α)(h:i<n):(l.take n).getD i d=l.getD i d:=by simp[Ya,h]
def za2 {α:Type}(l:List α)(i:Nat)(d:α)(h:l.length≤i):l.getD i d=d:=by simp[Ya,h]
def zcb {α:Type}(l:List α)(n:Nat)(d:α)(h:n<l.length):l.take (n+1)=l.take n++[l.getD n d]:=by rw[YbL h,Ya,Yb h];rfl
def eachR(F:Nat→Nat→Nat→Nat×Nat)(x y:ZN):Nat→ZN×Nat
 |0=>([],0)
 |i+1=>((eachR F x y i).1++[(F (x.getD i 0) (y.getD i 0) (eachR F x y i).2).1],(F (x.getD i 0) (y.getD i 0) (eachR F x y i).2).2)
def eachR_len(F:Nat→Nat→Nat→Nat×Nat)(x y:ZN)(i:Nat):(eachR F x y i).1.length=i:=by
 induction i with
 |zero=>rfl
 |succ i ih=>simp[eachR,ih]
def zdN(F:Nat→Nat→Nat→Nat×Nat)(x y:ZN):ZN:=zaw (eachR F x y (max x.length y.length+1)).1
def zai(x:ZN)(i:Nat):valL (x.take (i+1))=valL (x.take i)+10^i*x.getD i 0:=by
 by_cases h:i<x.length
 ·rw[zcb x i 0 h,zaG];have:(x.take i).length=i:=by simp;omega
  rw[this];simp[valL]
 rw[Yl Zo,Yl Zo,za2 _ _ _ Zo,Y9,Y3]
def getD_lt {l:ZN}(h:okL l)(i:Nat):l.getD i 0<10:=by
 rw[Ya];by_cases hi:i<l.length
 ·rw[Yb hi];exact h _ (Y6 _)
 rw[Yr Zo];simp
def split_mul(p s:Nat):p*(s%10)+p*10*(s/10)=p*s:=by rw[Yad,←YP,Nat.mod_add_div]
def zdD {l:ZN}{i d:Nat}(h:l.length=i):valL (l++[d])=valL l+10^i*d:=by rw[zaG,h];simp[valL]
def plusF(a b c:Nat):Nat×Nat:=((a+b+c)%10,(a+b+c)/10)
def minusF(a b c:Nat):Nat×Nat:=((a+10-b-c)%10,1-(a+10-b-c)/10)
def zK(k:Nat)(a _b c:Nat):Nat×Nat:=((a*k+c)%10,(a*k+c)/10)
def okL_each {F:Nat→Nat→Nat→Nat×Nat}{x y:ZN}(hF:∀a b c,(F a b c).1<10)(i:Nat):okL (eachR F x y i).1:=by
 induction i with
 |zero=>intro d hd;cases hd
 |succ i ih=>show okL (_++[_]);rw[okL_append];exact⟨ih,fun d hd=>by simp at hd;subst hd;exact hF _ _ _⟩
def plusF_ok(a b c:Nat):(plusF a b c).1<10:=YaJ _ Zo
def minusF_ok(a b c:Nat):(minusF a b c).1<10:=YaJ _ Zo
def zft(k a b c:Nat):(zK k a b c).1<10:=YaJ _ Zo
def plus_inv(x y:ZN)(i:Nat):valL (eachR plusF x y i).1+10^i*(eachR plusF x y i).2=valL (x.take i)+valL (y.take i):=by
 induction i with
 |zero=>simp[eachR,valL]
 |succ i ih=>rw[zai,zai];show valL (_++[_])+_*(plusF _ _ _).2=_;rw[zdD (eachR_len plusF x y i)];show _+_*((x.getD i 0+y.getD i 0+(eachR plusF x y i).2)%10)+_*((x.getD i 0+y.getD i 0+(eachR plusF x y i).2)/10)=_;rw[YM];generalize (10:Nat)^i=p at*;have h:=split_mul p (x.getD i 0+y.getD i 0+(eachR plusF x y i).2);generalize x.getD i 0=a at*;generalize y.getD i 0=b at*;generalize (eachR plusF x y i).2=c at*;rw[YP,YP]at h;omega
def zre {x y:ZN}(hx:okL x)(hy:okL y):zdN plusF x y=limbs (valL x+valL y):=by
 unfold zdN;generalize hN:max x.length y.length=N;rw[za0 (okL_each plusF_ok _)];have h:=plus_inv x y (N+1);rw[Yl Zo,Yl Zo]at h;have h1:=valL_lt hx;have h2:=valL_lt hy;have h3:(10:Nat)^x.length≤10^N:=YL Zo Zo;have h4:(10:Nat)^y.length≤10^N:=YL Zo Zo;rw[YM]at h;generalize (10:Nat)^N=p at*;have h5:(eachR plusF x y (N+1)).2=0:=by
  rcases YT (eachR plusF x y (N+1)).2 with h0|h0
  ·exact h0
  have:p*10*1≤p*10*(eachR plusF x y (N+1)).2:=Y8 _ h0;omega
 rw[h5,Y9,Y3]at h;rw[h]
def minus_carry(x y:ZN)(i:Nat):(eachR minusF x y i).2≤1:=by
 cases i with
 |zero=>simp[eachR]
 |succ i=>show (minusF _ _ _).2≤1;unfold minusF;omega
def minus_inv(x y:ZN)(hx:okL x)(hy:okL y)(i:Nat):valL (eachR minusF x y i).1+valL (y.take i)=valL (x.take i)+10^i*(eachR minusF x y i).2:=by
 induction i with
 |zero=>simp[eachR,valL]
 |succ i ih=>
  rw[zai,zai];have hc:=minus_carry x y i;have ha:=getD_lt hx i;have hb:=getD_lt hy i;show valL (_++[_])+_=_+_*(minusF _ _ _).2;rw[zdD (eachR_len minusF x y i)];show _+_*((x.getD i 0+10-y.getD i 0-(eachR minusF x y i).2)%10)+_=_+_*(1-(x.getD i 0+10-y.getD i 0-(eachR minusF x y i).2)/10);rw[YM];generalize (10:Nat)^i=p at*;generalize x.getD i 0=a at*;generalize y.getD i 0=b at*;generalize (eachR minusF x y i).2=c at*;by_cases h:a+10-b-c<10
  ·have e1:(a+10-b-c)%10=a+10-b-c:=Yb8 h;have e2:(a+10-b-c)/10=0:=Yb7 h;rw[e1,e2];have h2:p*(a+10-b-c)+p*b+p*c=p*a+p*10:=by rw[←YP,←YP,←YP];congr 1;omega
   simp only[YbA,Yag];omega
  have e1:(a+10-b-c)%10=a-b-c:=Zo;have e2:(a+10-b-c)/10=1:=Zo;rw[e1,e2];have h2:p*(a-b-c)+p*b+p*c=p*a:=by rw[←YP,←YP];congr 1;omega
  simp only[Ybz,Y9];omega
def zm1 {x y:ZN}(hx:okL x)(hy:okL y)(hle:valL y≤valL x):zdN minusF x y=limbs (valL x-valL y):=by
 unfold zdN;generalize hN:max x.length y.length=N;rw[za0 (okL_each minusF_ok _)];have h:=minus_inv x y hx hy (N+1);rw[Yl Zo,Yl Zo]at h;have h6:=valL_lt (okL_each (x:=x) (y:=y) minusF_ok (N+1));rw[eachR_len]at h6;have h7:=minus_carry x y (N+1);generalize (10:Nat)^(N+1)=p at*;have h5:(eachR minusF x y (N+1)).2=0:=by
  rcases YT (eachR minusF x y (N+1)).2 with h0|h0
  ·exact h0
  have:(eachR minusF x y (N+1)).2=1:=Zo;rw[this,Yag]at h;omega
 rw[h5,Y9,Y3]at h;congr 1;omega
def zhA {k:Nat}(hk:k<10)(x:ZN)(hx:okL x)(y:ZN)(i:Nat):(eachR (zK k) x y i).2<10:=by
 induction i with
 |zero=>simp[eachR]
 |succ i ih=>have ha:=getD_lt hx i;have:x.getD i 0*k≤9*9:=Ybk Zo Zo;show (x.getD i 0*k+(eachR (zK k) x y i).2)/10<10;generalize x.getD i 0*k=q at*;omega
def zhz(k:Nat)(x y:ZN)(i:Nat):valL (eachR (zK k) x y i).1+10^i*(eachR (zK k) x y i).2=valL (x.take i)*k:=by
 induction i with
 |zero=>simp[eachR,valL]
 |succ i ih=>rw[zai];show valL ((eachR (zK k) x y i).1++[(zK k (x.getD i 0) (y.getD i 0) (eachR (zK k) x y i).2).1])+_*(zK k (x.getD i 0) (y.getD i 0) (eachR (zK k) x y i).2).2=_;rw[zdD (eachR_len (zK k) x y i)];show _+_*((x.getD i 0*k+(eachR (zK k) x y i).2)%10)+_*((x.getD i 0*k+(eachR (zK k) x y i).2)/10)=_;rw[YM,Yal];generalize (10:Nat)^i=p at*;have h:=split_mul p (x.getD i 0*k+(eachR (zK k) x y i).2);rw[YP,←Yad]at h;generalize p*x.getD i 0*k=q at*;omega
def zhy {k:Nat}{x:ZN}(hk:k<10)(hx:okL x):zdN (zK k) x []=limbs (valL x*k):=by
 unfold zdN;generalize hN:max x.length ([]:ZN).length=N;have hN':x.length≤N:=Zo;rw[za0 (okL_each (zft k) _)];have h:=zhz k x [] (N+1);rw[Yl Zo]at h;have h1:=valL_lt hx;have h3:(10:Nat)^x.length≤10^N:=YL Zo Zo;have h5:(eachR (zK k) x [] (N+1)).2=0:=by
  rcases YT (eachR (zK k) x [] (N+1)).2 with h0|h0
  ·exact h0
  exfalso;have h8:valL x*k<10^(N+1):=by rw[YM];exact Yu (Ybl (Yu h1 h3) (YbW hk) Zo) (Yc _)
  have h9:10^(N+1)*1≤10^(N+1)*(eachR (zK k) x [] (N+1)).2:=Y8 _ h0;generalize (10:Nat)^(N+1)=p at*;omega
 rw[h5,Y9,Y3]at h;rw[h]
def zaV {x y:Nat}(h:(limbs x).length<(limbs y).length):x<y:=by
 rcases YaX x y with h1|h1
 ·exact h1
 have h2:=valL_lt (zI x);rw[zG]at h2;have:=zaO (YbG h1 h2);omega
def zbq(l:ZN)(k:Nat)(hk:k<l.length):valL l=valL (l.take k)+10^k*(l.getD k 0+10*valL (l.drop (k+1))):=by
 have e:l=l.take k++(l.getD k 0::l.drop (k+1)):=by
  conv=>lhs;rw[←Yae k l]
  congr 1;rw[Yas hk,Ya,Yb hk];rfl
 have h:(l.take k).length=k:=by simp;omega
 conv=>lhs;rw[e]
 rw[zaG,h,valL]
def zfY {l r:ZN}{k:Nat}(ho:okL l)(hlen:l.length=r.length)(hk:k<l.length)(hd:∀j,k<j→l.getD j 0=r.getD j 0)(h:l.getD k 0<r.getD k 0):valL l<valL r:=by
 have e:l.drop (k+1)=r.drop (k+1):=by
  apply Ya7;intro i;rw[Yak,Yak];have:=hd (k+1+i) Zo;rw[Ya,Ya]at this;by_cases hi:k+1+i<l.length
  ·rw[Yb hi,Yb Zo]at this ⊢;simpa using this
  rw[Yr Zo,Yr Zo]
 rw[zbq l k hk,zbq r k Zo,e];have h1:valL (l.take k)<10^k:=by
  have:=valL_lt (l:=l.take k) (fun d hd=>ho d (Ya9 hd));have h2:(l.take k).length=k:=by simp;omega
  rwa [h2]at this
 generalize (10:Nat)^k=p at*;generalize valL (r.drop (k+1))=q at*;have h3:p*(l.getD k 0+10*q)+p≤p*(r.getD k 0+10*q):=by rw[←Nat.mul_succ];exact Y8 _ Zo
 omega
def znu {l r:ZN}(hlen:l.length=r.length)(hd:∀j,l.getD j 0=r.getD j 0):l=r:=by
 apply Ya7;intro i;have:=hd i;rw[Ya,Ya]at this;by_cases hi:i<l.length
 ·rw[Yb hi,Yb Zo]at this ⊢;simpa using this
 rw[Yr Zo,Yr Zo]
def zrv {n k:Nat}(h:n<10^k):(limbs n).length≤k:=zaO (Yu h (Nat.pow_le_pow_left Zo k))
def zm6 {x y k:Nat}(hx:(limbs x).length≤k)(hy:(limbs y).length≤k):(limbs (x+y)).length≤k+1:=by apply zaO;have h1:=valL_lt (zI x);have h2:=valL_lt (zI y);rw[zG]at h1 h2;have h3:(10:Nat)^(limbs x).length≤10^k:=YL Zo hx;have h4:(10:Nat)^(limbs y).length≤10^k:=YL Zo hy;rw[YM];generalize (10:Nat)^k=p at*;omega
def zm4 {x y k:Nat}(hx:(limbs x).length≤k):(limbs (x-y)).length≤k:=by apply zaO;have h1:=valL_lt (zI x);rw[zG]at h1;have h3:(10:Nat)^(limbs x).length≤10^k:=YL Zo hx;omega
def zm5 {x y j k:Nat}(hx:(limbs x).length≤j)(hy:(limbs y).length≤k):(limbs (x*y)).length≤j+k:=by apply zaO;have h1:=valL_lt (zI x);have h2:=valL_lt (zI y);rw[zG]at h1 h2;have h3:(10:Nat)^(limbs x).length≤10^j:=YL Zo hx;have h4:(10:Nat)^(limbs y).length≤10^k:=YL Zo hy;rw[Ycp];exact Ybl (Yu h1 h3) (YbW (Yu h2 h4)) (YcF Zo)
def zkw {l:ZN}{j d:Nat}(hj:j<l.length):valL (l.set j d)+10^j*l.getD j 0=valL l+10^j*d:=by
 have h1:=zbq l j hj;have h2:=zbq (l.set j d) j (by simpa using hj);have e1:(l.set j d).take j=l.take j:=by rw[YbN (Yc _)]
 have e2:(l.set j d).drop (j+1)=l.drop (j+1):=by rw[Ycc Zo]
 have e3:(l.set j d).getD j 0=d:=by rw[Ya,Ybm (by simpa using hj)];rfl
 rw[e1,e2,e3]at h2;rw[h1,h2];generalize (10:Nat)^j=p at*;generalize 10*valL (l.drop (j+1))=q at*;rw[YP,YP];omega
def zbI {l:ZN}{i j d:Nat}(h:i≠j):(l.set i d).getD j 0=l.getD j 0:=by rw[Ya,List.getElem?_set_ne h,Ya]
def ze3 {l:ZN}{i d:Nat}(h:okL l)(hd:d<10):okL (l.set i d):=by
 intro x hx;rcases Ycz hx with h1|h1
 ·exact h x h1
 omega
def mulInv(x y:ZN)(i V0 k:Nat)(l:ZN)(c:Nat):Prop:=
 l.length=x.length+y.length+1∧okL l∧c<10∧valL l+10^(i+k)*c=V0+10^i*(x.getD i 0*valL (y.take k))∧
 (k≤y.length→l.getD (i+y.length) 0=0)∧(∀j,i+y.length<j→l.getD j 0=0)∧(k=y.length+1→c=0)
def mulP(x y:ZN)(i k:Nat)(l:ZN)(c:Nat):Nat:=l.getD (i+k) 0+c+x.getD i 0*y.getD k 0
def mulP_lt {x y:ZN}{i k:Nat}{l:ZN}{c:Nat}(hx:okL x)(hy:okL y)(hl:okL l)(hc:c<10):mulP x y i k l c<100∧x.getD i 0*y.getD k 0≤81:=by have h1:=getD_lt hx i;have h2:=getD_lt hy k;have h3:=getD_lt hl (i+k);have h4:x.getD i 0*y.getD k 0≤9*9:=Ybk Zo Zo;unfold mulP;generalize x.getD i 0*y.getD k 0=q at*;omega
def mul_step {x y:ZN}{i V0 k:Nat}{l:ZN}{c:Nat}(hx:okL x)(hy:okL y)(hi:i<x.length)(hk:k≤y.length)(h:mulInv x y i V0 k l c):mulInv x y i V0 (k+1) (l.set (i+k) (mulP x y i k l c%10)) (mulP x y i k l c/10):=by
 obtain⟨h1,h2,h3,h4,h5,h6,h7⟩:=h;have hb:=(mulP_lt (i:=i) (k:=k) hx hy h2 h3).1;have hj:i+k<l.length:=Zo;refine⟨by simpa using h1,ze3 h2 (YaJ _ Zo),Zo,?_,fun hk'=>?_,fun j hj'=>?_,fun hk'=>?_⟩
 ·have hs:=zkw (d:=mulP x y i k l c%10) hj;rw[zai,←YU,YM];have hp:10^(i+k)=(10:Nat)^i*10^k:=Ycp _ _ _;have hsp:=split_mul (10^(i+k)) (mulP x y i k l c);have hexp:10^(i+k)*mulP x y i k l c=10^(i+k)*l.getD (i+k) 0+10^(i+k)*c+10^i*(x.getD i 0*(10^k*y.getD k 0)):=by rw[hp];unfold mulP;rw[YP,YP];congr 1;rw[Yad];congr 1;rw[←Yad,←Yad,Yav (10^k) (x.getD i 0)]
  rw[YP (x.getD i 0),YP (10^i)];generalize 10^i*(x.getD i 0*valL (y.take k))=a1 at*;generalize 10^i*(x.getD i 0*(10^k*y.getD k 0))=a2 at*;generalize (10:Nat)^(i+k)=p at*;generalize p*(mulP x y i k l c%10)=a3 at*;generalize p*10*(mulP x y i k l c/10)=a4 at*;generalize p*mulP x y i k l c=a5 at*;generalize p*l.getD (i+k) 0=a6 at*;generalize p*c=a7 at*;omega
 ·rw[zbI Zo];exact h5 Zo
 ·rw[zbI Zo];exact h6 j hj'
 have hke:k=y.length:=Zo;subst hke;have e:mulP x y i y.length l c=c:=by unfold mulP;rw[h5 (Yc _),za2 y y.length 0 (Yc _)];simp
 rw[e];omega
def mulOut(x y:ZN)(i:Nat)(l:ZN):Prop:=
 l.length=x.length+y.length+1∧okL l∧valL l=valL (x.take i)*valL y∧∀j,i+y.length≤j→l.getD j 0=0
def mul_start(x y:ZN):mulOut x y 0 (List.replicate (x.length+y.length+1) 0):=by
 have hv:∀n,valL (List.replicate n 0)=0:=by intro n;induction n with
  |zero=>rfl
  |succ n ih=>rw[Ybo,valL,ih]
 refine⟨Zs,fun d hd=>by have:=YaO hd;omega,by rw[hv];simp[valL],fun j _=>?_⟩;rw[Ya,Ycj];split<;>rfl
def mul_row {x y:ZN}{i:Nat}{l:ZN}(h:mulOut x y i l):mulInv x y i (valL l) 0 l 0:=by obtain⟨h1,h2,h3,h4⟩:=h;exact⟨h1,h2,Zo,by simp[valL],fun _=>h4 _ (Yc _),fun j hj=>h4 j Zo,fun h=>Zo⟩
def mul_end {x y:ZN}{i:Nat}{l0 l:ZN}{c:Nat}(h0:mulOut x y i l0)(h:mulInv x y i (valL l0) (y.length+1) l c):mulOut x y (i+1) l:=by obtain⟨h1,h2,h3,h4,h5,h6,h7⟩:=h;refine⟨h1,h2,?_,fun j hj=>h6 j Zo⟩;rw[h7 rfl,Y9,Y3,h0.2.2.1,Yl (l:=y) Zo]at h4;rw[h4,zai x i,Yal,Yad]
def zrl {x y:ZN}{l:ZN}(h:mulOut x y x.length l):zaw l=limbs (valL x*valL y):=by rw[za0 h.2.1,h.2.2.1,Ym]
end Go.Ten

namespace Go.Pl
def dg(d:Nat):UInt8:=UInt8.ofNat (48+d)
def dg_isDig {d:Nat}(h:d<10):zaT (dg d)=true:=by have:=zbA h;unfold zaT dg;rw[this];simp;omega
def zrU {d:Nat}(h:d<10):(dg d).toNat-48=d:=by have:=zbA h;unfold dg;omega
def zqU:∀ {l:ZN},Ten.okL l→valD (l.reverse.map dg)=Ten.valL l
 |[],_=>rfl
 |d::l,h=>by have h1:d<10:=h d (YA ..);have h2:Ten.okL l:=fun x hx=>h x (YD _ hx);rw[Ycn,YV,YN,Ybg,zbR,zqU h2,zrU h1,Ten.valL];omega
def zy9 {l:ZN}(h:Ten.okL l):(l.map dg).all zaT=true:=Yo.2 fun c hc=>by obtain⟨d,hd,rfl⟩:=Yab.1 hc;exact dg_isDig (h d hd)
def zdC:∀ {l:ZN} {n:Nat},n≤l.length→(∀j,n≤j→l.getD j 0=0)→Ten.valL (l.take n)=Ten.valL l
 |[],_,_,_=>Zs
 |d::l,0,_,h=>by
  have hd:d=0:=h 0 (Yc _);have:=zdC (l:=l) (n:=0) (Yk _) fun j hj=>by have:=h (j+1) Zo;simpa using this
  rw[YbE]at this ⊢;show Ten.valL []=d+10*Ten.valL l;rw[←this,hd];rfl
 |d::l,n+1,hn,h=>by rw[Ycb,Ten.valL,Ten.valL,zdC (by simpa using hn) fun j hj=>by have:=h (j+1) Zo;simpa using this]
def zrj {l:ZN}(h:Ten.okL l)(n:Nat):Ten.okL (l.take n):=fun d hd=>h d (Ya9 hd)
def ten_text {l:ZN}{n:Nat}(ok:Ten.okL l)(hn:n≤l.length)(hz:∀j,n≤j→l.getD j 0=0)(h1:n≤1∨l.getD (n-1) 0≠0)(h0:0<n):(l.take n).reverse.map dg=dec (Ten.valL l):=by
 have hv:valD ((l.take n).reverse.map dg)=Ten.valL l:=(zqU (zrj ok n)).trans (zdC hn hz);have hl:((l.take n).reverse.map dg).length=n:=by simp;omega
 rw[←hv];refine(zg4 ?_ ?_ ?_).symm
 ·rw[List.map_reverse,List.all_reverse];exact zy9 (zrj ok n)
 ·intro e;rw[e]at hl;simp at hl;omega
 rw[hl];rcases h1 with h1|h1
 ·exact .inl h1
 right;have e:((l.take n).reverse.map dg).getD 0 0=dg (l.getD (n-1) 0):=by rw[Ya,YX,List.getElem?_reverse (by simp;omega),Ybh,Yx,Ya0 hn,Yi Zo,Ya];rw[YbA,Yb Zo];rfl
 have hlt:l.getD (n-1) 0<10:=by rw[Ya,Yb Zo];exact ok _ (Y6 _)
 rw[e];have:=zbA hlt;unfold dg;omega
def zen {α:Type}(l:List α)(i:Nat)(d:α)(h:i<l.length):l.drop i=l.getD i d::l.drop (i+1):=by rw[Ya,Yb h];exact Yas h
def zjf {a b:ZL}{i:Nat}(ha:a.all zaT=true)(hb:b.all zaT=true)(hl:a.length=b.length)(hi:i<a.length)(ht:a.take i=b.take i)(h:a.getD i 0<b.getD i 0):valD a<valD b:=by
 have ea:a=a.take i++(a.getD i 0::a.drop (i+1)):=by rw[←zen a i 0 hi,Yae]
 have eb:b=b.take i++(b.getD i 0::b.drop (i+1)):=by rw[←zen b i 0 Zo,Yae]
 have h1:valD (a.drop (i+1))<10^(a.drop (i+1)).length:=zhi (Yo.2 fun c hc=>Yo.1 ha c (Ybi hc));have hlen:(b.drop (i+1)).length=(a.drop (i+1)).length:=by simp;omega
 have da:=zbG (all_getD.1 ha i hi);have db:=zbG (all_getD.1 hb i Zo);have hlt:(a.getD i 0).toNat<(b.getD i 0).toNat:=Ybq.1 h;have e1:valD a=10^((a.drop (i+1)).length+1)*valD (a.take i)+(10^(a.drop (i+1)).length*((a.getD i 0).toNat-48)+valD (a.drop (i+1))):=by have:=YaZ valD ea;rw[zb3,zbS,Yn]at this;exact this
 have e2:valD b=10^((a.drop (i+1)).length+1)*valD (a.take i)+(10^(a.drop (i+1)).length*((b.getD i 0).toNat-48)+valD (b.drop (i+1))):=by have:=YaZ valD eb;rw[zb3,zbS,Yn,hlen,←ht]at this;exact this
 rw[e1,e2];have h2:10^(a.drop (i+1)).length*((a.getD i 0).toNat-48+1)≤10^(a.drop (i+1)).length*((b.getD i 0).toNat-48):=Y8 _ Zo;rw[YP,Yag]at h2;omega
def zdQ {m n:Nat}(h:(dec m).length<(dec n).length):m<n:=by refine Nat.lt_of_not_le fun hle=>?_;have h1:=zbP (Yc (dec m).length);have h2:=zcD (n:=n) (k:=(dec m).length) Zo (zdR m);omega
def ztZ(a b c:Nat):Nat×Nat:=if a<b+c then(a+10-b-c,1)else(a-b-c,0)
def lessF_eq {a b c:Nat}(ha:a<10)(hb:b<10)(hc:c≤1):ztZ a b c=Ten.minusF a b c:=by
 unfold ztZ Ten.minusF;split
 ·have e1:(a+10-b-c)%10=a+10-b-c:=Yb8 Zo;have e2:(a+10-b-c)/10=0:=Yb7 Zo;rw[e1,e2]
 have e1:(a+10-b-c)%10=a-b-c:=Zo;have e2:(a+10-b-c)/10=1:=Zo;rw[e1,e2]
def zry {x y:ZN}(hx:Ten.okL x)(hy:Ten.okL y)(hl:y.length≤x.length)(hle:Ten.valL y≤Ten.valL x):Ten.valL (Ten.eachR Ten.minusF x y x.length).1=Ten.valL x-Ten.valL y∧Ten.okL (Ten.eachR Ten.minusF x y x.length).1:=by
 have h:=Ten.minus_inv x y hx hy x.length;rw[Ym,Yl hl]at h;have ok:Ten.okL (Ten.eachR Ten.minusF x y x.length).1:=Ten.okL_each (fun a b c=>Ten.minusF_ok a b c) _;have hlt:=Ten.valL_lt ok;rw[Ten.eachR_len]at hlt;refine⟨?_,ok⟩;rcases YT (Ten.eachR Ten.minusF x y x.length).2 with h0|h0
 ·rw[h0,Y9]at h;omega
 have:10^x.length*1≤10^x.length*(Ten.eachR Ten.minusF x y x.length).2:=Y8 _ h0;omega
def add_val {x y:ZN}{n:Nat}(hx:Ten.okL x)(hy:Ten.okL y)(h1:x.length<n)(h2:y.length<n):Ten.valL (Ten.eachR Ten.plusF x y n).1=Ten.valL x+Ten.valL y∧Ten.okL (Ten.eachR Ten.plusF x y n).1:=by
 have ok:∀i,Ten.okL (Ten.eachR Ten.plusF x y i).1:=fun i=>Ten.okL_each (fun a b c=>Ten.plusF_ok a b c) _;obtain⟨m,rfl⟩:∃m,n=m+1:=⟨n-1,Zo⟩;have h:=Ten.plus_inv x y (m+1);rw[Yl Zo,Yl Zo]at h;refine⟨?_,ok _⟩;have hxl:=Ten.valL_lt hx;have hyl:=Ten.valL_lt hy;have p1:(10:Nat)^x.length≤10^m:=YL Zo Zo;have p2:(10:Nat)^y.length≤10^m:=YL Zo Zo;have p3:(10:Nat)^(m+1)=10^m*10:=YM ..;rcases YT (Ten.eachR Ten.plusF x y (m+1)).2 with h0|h0
 ·rw[h0,Y9]at h;omega
 have:10^(m+1)*1≤10^(m+1)*(Ten.eachR Ten.plusF x y (m+1)).2:=Y8 _ h0;omega
end Go.Pl

namespace Go.Pl
def zbn {m n:Nat}(h:m≤n):(dec m).length≤(dec n).length:=Yaa fun hlt=>by have:=zdQ hlt;omega
def zrX {r d:Nat}(hr:0<r)(hd:d<10):dec r++[dg d]=dec (10*r+d):=by rw[zdS (n:=10*r+d) Zo];have e1:(10*r+d)/10=r:=Zo;have e2:(10*r+d)%10=d:=Zo;rw[e1,e2];rfl
def zzc {d:Nat}(hd:d<10):[dg d]=dec (10*0+d):=by rw[Y9,Yan,zbF hd];rfl
def dg_of {c:UInt8}(h:zaT c=true):dg (c.toNat-48)=c:=by have:=zbG h;unfold dg;apply YaY.1;rw[UInt8.toNat_ofNat'];omega
theorem zrW:dec 0=[48]:=rfl
def dec_is_zero {n:Nat}:dec n=[48]↔n=0:=by
 constructor
 ·intro h;have:=YaZ valD h;rw[zan]at this;exact this
 rintro rfl;rfl
def zv1 {a:ZL}{i:Nat}(h:i<a.length):valD (a.take (i+1))=10*valD (a.take i)+((a.getD i 0).toNat-48):=by
 have:a.take (i+1)=a.take i++[a.getD i 0]:=by rw[YaG,Ya,Yb h];rfl
 rw[this,zbR]
def quo_step {V n d:Nat}(hn:0<n)(hd:d<10):(10*V+d)/n=10*(V/n)+(10*(V%n)+d)/n∧(10*V+d)%n=(10*(V%n)+d)%n∧(10*(V%n)+d)/n<10:=by
 have h:=Ybd V n;have hm:=YaJ V hn;have e:10*V+d=10*(V%n)+d+n*(10*(V/n)):=by rw[Nat.mul_left_comm];omega
 refine⟨?_,?_,?_⟩
 ·rw[e,Nat.add_mul_div_left _ _ hn];omega
 ·rw[e,Nat.add_mul_mod_self_left]
 exact(YaQ hn).2 Zo
def quo_text {w:ZN}{k:Nat}(ok:∀d∈w,d<10)(hk:k<w.length)(hz:∀j,j<k→w.getD j 0=0)(h1:k=w.length-1∨w.getD k 0≠0):(w.drop k).map dg=dec (valD (w.map dg)):=by
 have key:∀(w:ZN)(k:Nat),(∀j,j<k→w.getD j 0=0)→valD (w.map dg)=valD ((w.drop k).map dg):=by
  intro w k;induction k generalizing w with
  |zero=>intro _;rfl
  |succ k ih=>
   intro hz;cases w with
   |nil=>rfl
   |cons d w=>have hd:d=0:=hz 0 Zo;rw[Ycr,←ih w fun j hj=>by simpa using hz (j+1) Zo,hd,YN,zbS];have:(dg 0).toNat-48=0:=rfl;rw[this];omega
 rw[key w k hz];refine(zg4 ?_ ?_ ?_).symm
 ·exact zy9 fun d hd=>ok d (Ybi hd)
 ·intro e;have:=YaZ List.length e;simp at this;omega
 rcases h1 with h1|h1
 ·left;simp;omega
 right;have hlt:w.getD k 0<10:=by rw[Ya,Yb hk];exact ok _ (Y6 _)
 have e:((w.drop k).map dg).getD 0 0=dg (w.getD k 0):=by rw[zen w k 0 hk];rfl
 rw[e];have:=zbA hlt;unfold dg;omega
end Go.Pl

namespace Go.Pl
def zy7 {U V v1 t P:Nat}(h1:0<v1)(hV:v1*P≤V)(hU:U<(t+1)*P):U/V≤t/v1:=by rw[Yb0 h1];have h2:U/V*V≤U:=Yct U V;have h3:U/V*v1*P≤U:=Ys (by rw[Yad];exact Y8 _ hV) h2;have h4:U/V*v1*P<(t+1)*P:=YbG h3 hU;have:=YaU h4;exact Nat.le_of_lt_succ this
def dig_dec {U V v1 v2 u2 t q r P:Nat}(hV:(v1*1000000000+v2)*P≤V)(hU:U<(t*1000000000+u2+1)*P)(he:q*v1+r=t)(h:r*1000000000+u2<q*v2):U/V<q:=by
 have hq:t*1000000000+u2+1≤q*(v1*1000000000+v2):=by rw[YP,←Yad,←he,Yal];omega
 have h1:U<q*V:=calc
  U<(t*1000000000+u2+1)*P:=hU
  _≤q*(v1*1000000000+v2)*P:=YO _ hq
  _=q*((v1*1000000000+v2)*P):=Yad ..
  _≤q*V:=Y8 _ hV
 have hVp:0<V:=by
  rcases YT V with h0|h0
  ·subst h0;simp at h1
  exact h0
 exact(YaQ hVp).2 h1
def dig_far {U V v1 t q r P:Nat}(hV:V≤(v1+1)*P)(hU:t*P≤U)(he:q*v1+r=t)(h:q≤r):q*V≤U:=calc
 q*V≤q*((v1+1)*P):=Y8 _ hV
 _=(q*v1+q)*P:=by rw[←Yad,YP,Yag]
 _≤t*P:=YO _ Zo
 _≤U:=hU
def dig_near {U V v1 v2 u2 t q r P:Nat}(hV:V≤(v1*1000000000+v2+1)*P)(hU:(t*1000000000+u2)*P≤U)(he:q*v1+r=t)(h:q*v2≤r*1000000000+u2) (hq:q≤v1*1000000000+v2+1):(q-1)*V≤U:=by
 cases q with
 |zero=>simp
 |succ s=>
  rw[YbT];refine Ys (Y8 _ hV) (Ys ?_ hU);rw[←Yad];refine YO _ ?_;have e1:s*(v1*1000000000+v2+1)=s*v1*1000000000+s*v2+s:=by rw[YP,YP,Yag,Yad]
  rw[e1];rw[Yal,YbS]at he h;generalize s*v1=a at*;generalize s*v2=b at*;omega
def zaA(l:ZN)(k:Nat):valL (l.drop k)=l.getD k 0+1000000000*valL (l.drop (k+1)):=by
 by_cases h:k<l.length
 ·rw[Yas h,valL];simp[Ya,h]
 rw[YbX Zo,YbX Zo,za2 _ _ _ Zo];simp[valL]
def zkV {l:ZN}(h:okL l)(k:Nat):okL (l.take k):=fun d hd=>h d (Ya9 hd)
def zkW {l:ZN}(h:okL l)(k:Nat):okL (l.drop k):=fun d hd=>h d (Ybi hd)
def zkd(l:ZN)(k:Nat)(hk:k≤l.length):valL l=valL (l.take k)+1000000000^k*valL (l.drop k):=by
 conv=>lhs;rw[←Yae k l]
 rw[zaG];simp[Ya0 hk]
def zdA {l:ZN}(h:okL l)(k:Nat)(hk:k≤l.length):valL (l.drop k)*1000000000^k≤valL l∧valL l<(valL (l.drop k)+1)*1000000000^k:=by
 have h1:=zkd l k hk;have h2:valL (l.take k)<1000000000^k:=by have:=valL_lt (zkV h k);rw[Yx,Ya0 hk]at this;exact this
 generalize (1000000000:Nat)^k=p at*;generalize valL (l.drop k)=x at*;generalize valL (l.take k)=y at*;rw[h1,Yav p x,Yal];omega
def zca {l:ZN}{k:Nat}(h:l.length≤k):valL (l.drop k)=0:=by rw[YbX h];rfl
def zgC(u v:ZN)(q r:Nat):Prop:=
 q*v.getD (v.length-1) 0+r=u.getD v.length 0*1000000000+u.getD (v.length-1) 0∧valL u/valL v≤q
structure DigOK(u v:ZN):Prop where
 ou:okL u
 ov:okL v
 len:u.length=v.length+1
 pos:0<v.length
 top:0<v.getD (v.length-1) 0
 less:valL u<valL v*1000000000
def DigOK.box1 {u v:ZN}(h:DigOK u v):v.getD (v.length-1) 0*1000000000^(v.length-1)≤valL v∧valL v≤(v.getD (v.length-1) 0+1)*1000000000^(v.length-1)∧(u.getD v.length 0*1000000000+u.getD (v.length-1) 0)*1000000000^(v.length-1)≤valL u∧valL u<(u.getD v.length 0*1000000000+u.getD (v.length-1) 0+1)*1000000000^(v.length-1):=by
 have hp:=h.pos;have hl:=h.len;have z1:valL (v.drop (v.length-1+1))=0:=zca Zo;have z2:valL (u.drop (v.length+1))=0:=zca Zo;have e1:valL (v.drop (v.length-1))=v.getD (v.length-1) 0:=by rw[zaA,z1];omega
 have e2:valL (u.drop (v.length-1))=u.getD v.length 0*1000000000+u.getD (v.length-1) 0:=by rw[zaA,show v.length-1+1=v.length by omega,zaA u v.length,z2];omega
 have b1:=zdA h.ov (v.length-1) Zo;have b2:=zdA h.ou (v.length-1) Zo;rw[e1]at b1;rw[e2]at b2;exact⟨b1.1,YbW b1.2,b2.1,b2.2⟩
def DigOK.box2 {u v:ZN}(h:DigOK u v)(h2:1<v.length):(v.getD (v.length-1) 0*1000000000+v.getD (v.length-2) 0)*1000000000^(v.length-2)≤valL v∧valL v≤(v.getD (v.length-1) 0*1000000000+v.getD (v.length-2) 0+1)*1000000000^(v.length-2)∧((u.getD v.length 0*1000000000+u.getD (v.length-1) 0)*1000000000+u.getD (v.length-2) 0)*1000000000^(v.length-2)≤valL u∧valL u<((u.getD v.length 0*1000000000+u.getD (v.length-1) 0)*1000000000+u.getD (v.length-2) 0+1)*1000000000^(v.length-2):=by
 have hl:=h.len;have z1:valL (v.drop (v.length-1+1))=0:=zca Zo;have z2:valL (u.drop (v.length+1))=0:=zca Zo;have e1:valL (v.drop (v.length-2))=v.getD (v.length-1) 0*1000000000+v.getD (v.length-2) 0:=by rw[zaA,show v.length-2+1=v.length-1 by omega,zaA v (v.length-1),z1];omega
 have e2:valL (u.drop (v.length-2))=(u.getD v.length 0*1000000000+u.getD (v.length-1) 0)*1000000000+u.getD (v.length-2) 0:=by rw[zaA,show v.length-2+1=v.length-1 by omega,zaA u (v.length-1),show v.length-1+1=v.length by omega,zaA u v.length,z2];omega
 have b1:=zdA h.ov (v.length-2) Zo;have b2:=zdA h.ou (v.length-2) Zo;rw[e1]at b1;rw[e2]at b2;exact⟨b1.1,YbW b1.2,b2.1,b2.2⟩
def DigOK.vpos {u v:ZN}(h:DigOK u v):0<valL v:=by have:=h.box1.1;have h1:=h.top;have h2:0<1000000000^(v.length-1):=YcF Zo;generalize (1000000000:Nat)^(v.length-1)=p at*;have:=Yb5 h1 h2;omega
def DigOK.qlt {u v:ZN}(h:DigOK u v):valL u/valL v<1000000000:=
 (YaQ h.vpos).2 (by rw[Yav];exact h.less)
def znC {u v:ZN}(h:DigOK u v):zgC u v ((u.getD v.length 0*1000000000+u.getD (v.length-1) 0)/v.getD (v.length-1) 0) ((u.getD v.length 0*1000000000+u.getD (v.length-1) 0)%v.getD (v.length-1) 0):=by obtain⟨b1,_,_,b4⟩:=h.box1;refine⟨?_,zy7 h.top b1 b4⟩;rw[Yav];exact Ybd _ _
def zuW {u v:ZN}{q r:Nat}(h:DigOK u v)(hi:zgC u v q r)(hq:1000000000≤q):zgC u v (q-1) (r+v.getD (v.length-1) 0):=by obtain⟨h1,h2⟩:=hi;have h3:=h.qlt;refine⟨?_,Zo⟩;rw[←h1];obtain⟨s,rfl⟩:∃s,q=s+1:=⟨q-1,Zo⟩;rw[YbT,Yal,YbS];omega
def zpV {u v:ZN}{q r:Nat}(h:DigOK u v)(hi:zgC u v q r)(hn:1<v.length)(hc:r*1000000000+u.getD (v.length-2) 0<q*v.getD (v.length-2) 0):zgC u v (q-1) (r+v.getD (v.length-1) 0):=by obtain⟨h1,h2⟩:=hi;obtain⟨b1,_,_,b4⟩:=h.box2 hn;have h3:=dig_dec b1 b4 h1 hc;have hq0:0<q:=YbG (Yk _) h3;refine⟨?_,Nat.le_sub_one_of_lt h3⟩;rw[←h1];obtain⟨s,rfl⟩:∃s,q=s+1:=⟨q-1,Zo⟩;rw[YbT,Yal,YbS];omega
def zds {u v:ZN}{q r:Nat}(h:DigOK u v)(hi:zgC u v q r)(hq:q<1000000000) (hc:v.length=1∨1000000000≤r∨q*v.getD (v.length-2) 0≤r*1000000000+u.getD (v.length-2) 0):(q-1)*valL v≤valL u:=by
 obtain⟨h1,h2⟩:=hi;obtain⟨b1,b2,b3,b4⟩:=h.box1;have weak:q*valL v≤valL u→(q-1)*valL v≤valL u:=fun e=>Ys (YO _ Zo) e;by_cases hn:v.length=1
 ·apply weak;simp only[hn,Ybz,Nat.pow_zero,Yag]at b3 h1;have z:valL (v.drop (0+1))=0:=zca Zo;have e:valL v=v.getD 0 0:=by have h0:=zaA v 0;rw[z,Y1]at h0;omega
  rw[e];omega
 rcases hc with hc|hc|hc
 ·exact absurd hc hn
 ·exact weak (dig_far b2 b3 h1 Zo)
 have hp:=h.pos;obtain⟨c1,c2,c3,c4⟩:=h.box2 Zo;refine dig_near c2 c3 h1 hc ?_;have:=h.top;omega
def zjh(q:Nat)(u v:ZN)(i:Nat)(l:ZN)(b c:Nat):Prop:=
 l.length=u.length∧okL l∧(∀j,i≤j→l.getD j 0=u.getD j 0)∧valL (l.take i)+q*valL (v.take i)=valL (u.take i)+1000000000^i*(b+c)∧b≤1∧c<1000000000
def subP(q:Nat)(v:ZN)(i c:Nat):Nat:=c+q*v.getD i 0
def subD(l:ZN)(i p b:Nat):Nat:=l.getD i 0+1000000000-p%1000000000-b
def zv8 {q:Nat}{v:ZN}{i c:Nat}(hq:q<1000000000)(ov:okL v)(hc:c<1000000000):subP q v i c<1000000000000000000:=by have h2:=getD_lt ov i;have h4:q*v.getD i 0≤999999999*999999999:=Ybk Zo Zo;unfold subP;generalize q*v.getD i 0=x at*;omega
def zra {l:ZN}{i d:Nat}(hi:i<l.length):valL ((l.set i d).take (i+1))=valL (l.take i)+1000000000^i*d:=by rw[zai,YbN (Yc _)];congr 2;rw[Ya,Ybm hi];rfl
def sub_step {q:Nat}{u v:ZN}{i:Nat}{l:ZN}{b c:Nat}(hq:q<1000000000)(ov:okL v)(hi:i<u.length)(h:zjh q u v i l b c):zjh q u v (i+1) (l.set i (subD l i (subP q v i c) b%1000000000)) (1-subD l i (subP q v i c) b/1000000000) (subP q v i c/1000000000):=by
 obtain⟨h1,h2,h3,h4,h5,h6⟩:=h;have hp:=zv8 (i:=i) hq ov h6;have hl:=getD_lt h2 i;have hli:l.getD i 0=u.getD i 0:=h3 i (Yc _);refine⟨by simpa using h1,ze3 h2 (YaJ _ Zo),fun j hj=>by rw[zbI Zo];exact h3 j Zo,?_,Zo,Zo⟩;rw[zra Zo,zai v,zai u,YP q,←hli,YM];have hsp:subP q v i c=c+q*v.getD i 0:=rfl;have e1:q*(1000000000^i*v.getD i 0)=1000000000^i*(q*v.getD i 0):=by rw[Nat.mul_left_comm]
 rw[e1];have key:subD l i (subP q v i c) b%1000000000+q*v.getD i 0+(b+c)=l.getD i 0+1000000000*(1-subD l i (subP q v i c) b/1000000000+subP q v i c/1000000000):=by unfold subD;generalize subP q v i c=p at*;generalize q*v.getD i 0=x at*;generalize l.getD i 0=y at*;omega
 have key2:(1000000000:Nat)^i*(subD l i (subP q v i c) b%1000000000+q*v.getD i 0+(b+c))=1000000000^i*(l.getD i 0+1000000000*(1-subD l i (subP q v i c) b/1000000000+subP q v i c/1000000000)):=by rw[key]
 rw[YP,YP,YP _ (l.getD i 0),←Yad _ 1000000000]at key2;generalize (1000000000:Nat)^i*(subD l i (subP q v i c) b%1000000000)=a1 at*;generalize (1000000000:Nat)^i*(q*v.getD i 0)=a2 at*;generalize (1000000000:Nat)^i*(b+c)=a3 at*;generalize (1000000000:Nat)^i*l.getD i 0=a4 at*;generalize (1000000000:Nat)^i*1000000000*(1-subD l i (subP q v i c) b/1000000000+subP q v i c/1000000000)=a5 at*;generalize valL (l.take i)=a6 at*;generalize q*valL (v.take i)=a7 at*;generalize valL (u.take i)=a8 at*;omega
def zv6(q:Nat)(u v:ZN)(ou:okL u):zjh q u v 0 u 0 0:=
 ⟨rfl,ou,fun _ _=>rfl,by simp[valL],Zo,Zo⟩
def sub_end {q:Nat}{u v l:ZN}{b c:Nat}(hq:q<1000000000)(h:DigOK u v)(hi:zjh q u v u.length l b c)(hc0:c=0):valL l+q*valL v=valL u+1000000000^u.length*b:=by obtain⟨h1,h2,h3,h4,h5,h6⟩:=hi;have hl:=h.len;rw[←h1,Ym]at h4;rw[h1,Ym,Yl (l:=v) Zo,hc0,Y3]at h4;exact h4
def zv7 {q:Nat}{u v l:ZN}{b c:Nat}(hi:zjh q u v v.length l b c):subP q v v.length c/1000000000=0:=by obtain⟨h1,h2,h3,h4,h5,h6⟩:=hi;unfold subP;rw[za2 v v.length 0 (Yc _),Y9,Y3];omega
def dig_done {q:Nat}{u v l:ZN}(h:DigOK u v)(hq:valL u/valL v≤q)(he:valL l+q*valL v=valL u):q=valL u/valL v∧valL l=valL u%valL v:=by have hv:=h.vpos;have h1:q≤valL u/valL v:=(Yb0 hv).2 Zo;obtain rfl:q=valL u/valL v:=Nat.le_antisymm h1 hq;refine⟨rfl,?_⟩;have:=Ybd (valL u) (valL v);rw[Yav]at this;omega
def dig_over {q:Nat}{u v l:ZN}(h:DigOK u v)(ol:okL l)(hl:l.length=u.length)(hq:valL u/valL v≤q)(hq1:(q-1)*valL v≤valL u)(he:valL l+q*valL v=valL u+1000000000^u.length):q=valL u/valL v+1∧valL l+valL v=valL u%valL v+1000000000^u.length:=by
 have hv:=h.vpos;have h1:q-1≤valL u/valL v:=(Yb0 hv).2 hq1;have hlt:=valL_lt ol;rw[hl]at hlt;have h2:q≠valL u/valL v:=by intro e;have:=Yct (valL u) (valL v);rw[←e]at this;omega
 have e:q=valL u/valL v+1:=Zo;refine⟨e,?_⟩;have:=Ybd (valL u) (valL v);rw[Yav]at this;rw[e,Yal,YbS]at he;omega
def zgs(u v:ZN)(i:Nat)(l:ZN)(c:Nat):Prop:=
 l.length=u.length∧okL l∧(∀j,i≤j→l.getD j 0=u.getD j 0)∧valL (l.take i)+1000000000^i*c=valL (u.take i)+valL (v.take i)∧c≤1
def zja(l v:ZN)(i c:Nat):Nat:=l.getD i 0+c+v.getD i 0
def zAR {u v:ZN}{i:Nat}{l:ZN}{c:Nat}(ov:okL v)(hi:i<u.length)(h:zgs u v i l c):zgs u v (i+1) (l.set i (zja l v i c%1000000000)) (zja l v i c/1000000000):=by
 obtain⟨h1,h2,h3,h4,h5⟩:=h;have hl:=getD_lt h2 i;have hv:=getD_lt ov i;have hli:l.getD i 0=u.getD i 0:=h3 i (Yc _);have hs:zja l v i c=l.getD i 0+c+v.getD i 0:=rfl;refine⟨by simpa using h1,ze3 h2 (YaJ _ Zo),fun j hj=>by rw[zbI Zo];exact h3 j Zo,?_,Zo⟩;rw[zra Zo,zai v,zai u,←hli,YM];have hsp:=split_mul (1000000000^i) (zja l v i c);have hexp:1000000000^i*zja l v i c=1000000000^i*l.getD i 0+1000000000^i*c+1000000000^i*v.getD i 0:=by rw[hs,YP,YP]
 generalize (1000000000:Nat)^i*(zja l v i c%1000000000)=a1 at*;generalize (1000000000:Nat)^i*1000000000*(zja l v i c/1000000000)=a2 at*;generalize (1000000000:Nat)^i*zja l v i c=a3 at*;generalize (1000000000:Nat)^i*l.getD i 0=a4 at*;generalize (1000000000:Nat)^i*c=a5 at*;generalize (1000000000:Nat)^i*v.getD i 0=a6 at*;omega
def zvx(u v:ZN)(ou:okL u):zgs u v 0 u 0:=⟨rfl,ou,fun _ _=>rfl,by simp[valL],Zo⟩
def back_end {u v l:ZN}{c r:Nat}(hv:v.length≤u.length)(hi:zgs u v u.length l c)(hr:r<1000000000^u.length)(he:valL u+valL v=r+1000000000^u.length):valL l=r:=by obtain⟨h1,h2,h3,h4,h5⟩:=hi;have hlt:=valL_lt h2;rw[h1]at hlt;rw[Ym,Yl (l:=v) hv,Yl Zo]at h4;generalize (1000000000:Nat)^u.length=p at*;have hc:c=0∨c=1:=Zo;rcases hc with rfl|rfl<;>omega
def digs:Nat→Nat→ZN
 |0,_=>[]
 |k+1,x=>x%1000000000::digs k (x/1000000000)
def zgl:∀ {l:ZN},okL l→l=digs l.length (valL l)
 |[],_=>rfl
 |d::l,h=>by obtain⟨h1,h2⟩:=okL_cons.1 h;have ih:=zgl h2;show d::l=valL (d::l)%1000000000::digs l.length (valL (d::l)/1000000000);rw[valL];rw[show (d+1000000000*valL l)%1000000000=d by omega,show (d+1000000000*valL l)/1000000000=valL l by omega,←ih]
def zdP:∀(k x:Nat),(digs k x).length=k
 |0,_=>rfl
 |k+1,x=>by simp[digs,zdP k]
def zlw:∀(k x:Nat),okL (digs k x)
 |0,_=>fun _ h=>by cases h
 |k+1,x=>okL_cons.2 ⟨YaJ _ Zo,zlw k _⟩
def zlv:∀(k x:Nat),x<1000000000^k→valL (digs k x)=x
 |0,x,h=>by simp at h;subst h;rfl
 |k+1,x,h=>by
  have h':x/1000000000<1000000000^k:=by rw[YM]at h;exact(YaQ Zo).2 h
  rw[digs,valL,zlv k _ h'];omega
end Go.Pl
