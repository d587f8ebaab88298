/- Natural numbers as digits and as blocks of nine digits; no program in sight. -/
import Derived.Test.YthbimeikbkjnkaaGreatDoorAZ
set_option linter.all false
set_option maxHeartbeats 16000000
set_option maxRecDepth 100000
namespace Go.Pl
def zaV(c:UInt8):Bool:=decide (48≤c.toNat)&&decide (c.toNat≤57)
def valD(a:List UInt8):Nat:=a.foldl (fun n c=>10*n+(c.toNat - 48)) 0
def zD(a:List UInt8):Bool:= !decide (a=[])&&decide (a.length≤1000)&&(decide (a.length≤1)|| !decide ((a.getD 0 0).toNat=48))&&a.all zaV
theorem all_getD {p:UInt8→Bool}{a:List UInt8}:a.all p=true↔∀ i,i<a.length→p (a.getD i 0)=true:=by
 simp only [Yg];constructor
 ·intro h i hi;rw [Ya,Yb hi];exact h _ (YZ _)
 ·intro h x hx;obtain⟨i,hi,rfl⟩:=Yaj.1 hx;have:=h i hi;rwa [Ya,Yb hi]at this
def valL:List Nat→Nat
 |[]=>0
 |d::l=>d+1000000000*valL l
def okL(l:List Nat):Prop:=∀ d∈l,d<1000000000
def zav:List Nat→List Nat
 |[]=>[]
 |d::l=>if d=0∧zav l=[]then []else d::zav l
def zcl:Nat→Nat→List Nat
 |0,_=>[]
 |f+1,n=>if n=0 then []else n % 1000000000::zcl f (n / 1000000000)
def limbs(n:Nat):List Nat:=zcl n n
theorem zeg:∀(f g n:Nat),n≤f→n≤g→zcl f n=zcl g n
 |0,g,n,h,_=>by
  have:n=0:=by omega
  subst this;cases g<;>simp [zcl]
 |f+1,0,n,_,h=>by
  have:n=0:=by omega
  subst this;simp [zcl]
 |f+1,g+1,n,h,h'=>by
  simp only [zcl];split
  ·rfl
  ·rw [zeg f g (n / 1000000000) (by omega) (by omega)]
theorem zaL:limbs 0=[]:=rfl
theorem zaX {n:Nat}(h:n≠0):limbs n=n % 1000000000::limbs (n / 1000000000):=by unfold limbs;obtain⟨m,rfl⟩:∃ m,n=m+1:=⟨n - 1,by omega⟩;rw [zcl,Yd h,zeg m ((m+1) / 1000000000) ((m+1) / 1000000000) (by omega) (Ye _)]
theorem limbs_nil {n:Nat}:limbs n=[]↔n=0:=by
 constructor
 ·intro h;by_cases h0:n=0
  ·exact h0
  ·rw [zaX h0]at h;cases h
 ·rintro rfl;rfl
theorem zC(n:Nat):valL (limbs n)=n:=by
 induction n using Nat.strongRecOn with
 |_ n ih=>
  by_cases h:n=0
  ·subst h;rfl
  ·rw [zaX h,valL,ih (n / 1000000000) (by omega)];omega
theorem zF(n:Nat):okL (limbs n):=by
 induction n using Nat.strongRecOn with
 |_ n ih=>
  by_cases h:n=0
  ·subst h;intro d hd;cases hd
  ·rw [zaX h];intro d hd;rcases YA.1 hd with rfl|hd
   ·omega
   ·exact ih (n / 1000000000) (by omega) d hd
theorem okL_cons {d:Nat}{l:List Nat}:okL (d::l)↔d<1000000000∧okL l:=by simp [okL]
theorem okL_append {l r:List Nat}:okL (l++r)↔okL l∧okL r:=by simp only [okL,Yaf];exact⟨fun h=>⟨fun d hd=>h d (.inl hd),fun d hd=>h d (.inr hd)⟩,fun h d hd=>hd.elim (h.1 d) (h.2 d)⟩
theorem za5 {l:List Nat}(h:okL l):zav l=limbs (valL l):=by
 induction l with
 |nil=>rfl
 |cons d l ih=>
  rw [okL_cons]at h;rw [zav,ih h.2,valL];have hd:=h.1;by_cases h0:d+1000000000*valL l=0
  ·rw [h0,zaL,Yf ⟨by omega,limbs_nil.2 (by omega)⟩]
  ·rw [zaX h0,Yd (by rw [limbs_nil];omega)];congr 1
   ·omega
   ·congr 1;omega
theorem zaI(l r:List Nat):valL (l++r)=valL l+1000000000 ^ l.length*valL r:=by
 induction l with
 |nil=>simp [valL]
 |cons d l ih=>simp only [YbE,valL,ih,Ym,YP,YK, ←Y9];rw [Yay (1000000000 ^ l.length) 1000000000];omega
theorem valL_lt {l:List Nat}(h:okL l):valL l<1000000000 ^ l.length:=by
 induction l with
 |nil=>simp [valL]
 |cons d l ih=>
  rw [okL_cons]at h;have:=ih h.2;simp only [valL,Ym,YP];have h1:=h.1;have:1000000000*valL l+1000000000≤1000000000*1000000000 ^ l.length:=by rw [←Nat.mul_succ];exact Y3 _ this
  omega
theorem zdb {l:List Nat}{n:Nat}(hn:n≤l.length)(h:∀ j,n≤j→l.getD j 0=0)(h2:n=0∨l.getD (n - 1) 0≠0):zav l=l.take n:=by
 induction l generalizing n with
 |nil=>simp [zav]
 |cons d l ih=>
  cases n with
  |zero=>
   have hd:=h 0 (Ye _);have hl:zav l=[]:=by rw [ih (n:=0) (Yk _) (fun j _=>h (j+1) (Yk _)) (.inl rfl)];simp
   simp at hd;simp [zav,hd,hl]
  |succ n=>
   have hl:=ih (n:=n) (by simpa using hn) (fun j hj=>by have:=h (j+1) (by omega);simpa using this) (by
    cases n with
    |zero=>exact .inl rfl
    |succ n=>right;rcases h2 with h2|h2;omega;simpa using h2)
   rw [zav,hl,YbS,Yd];rintro⟨hd,hnil⟩;rcases h2 with h2|h2
   ·omega
   ·cases n with
    |zero=>simp at h2;exact h2 hd
    |succ n=>
     have:l.length=0:=by have:=Ya6 List.length hnil;simp at this;simp [this]
     simp at hn;omega
theorem zcz {n:Nat}(h:n≠0):(limbs n).getD ((limbs n).length - 1) 0≠0:=by
 induction n using Nat.strongRecOn with
 |_ n ih=>
  rw [zaX h];by_cases h1:n / 1000000000=0
  ·rw [h1,zaL];simp;omega
  ·have:=ih (n / 1000000000) (by omega) h1;have hne:limbs (n / 1000000000)≠[]:=by rw [ne_eq,limbs_nil];exact h1
   obtain⟨d,r,hdr⟩:=List.exists_cons_of_ne_nil hne;rw [hdr]at this ⊢;simpa using this
theorem zaN {n k:Nat}(h:n<1000000000 ^ k):(limbs n).length≤k:=by
 induction k generalizing n with
 |zero=>have:n=0:=by simpa using h
        subst this;simp [zaL]
 |succ k ih=>
  by_cases h0:n=0
  ·subst h0;simp [zaL]
  ·rw [zaX h0,Ym];have:n / 1000000000<1000000000 ^ k:=by rw [YaH (by omega)];rw [YP]at h;exact h
   have:=ih this;omega
theorem getD_drop {α:Type}(l:List α)(a b:Nat)(d:α):(l.drop a).getD b d=l.getD (a+b) d:=by simp [Ya]
theorem getD_take {α:Type}(l:List α)(n i:Nat)(d:α)(h:i<n):(l.take n).getD i d=l.getD i d:=by simp [Ya,h]
theorem za6 {α:Type}(l:List α)(i:Nat)(d:α)(h:l.length≤i):l.getD i d=d:=by simp [Ya,h]
theorem zca {α:Type}(l:List α)(n:Nat)(d:α)(h:n<l.length):l.take (n+1)=l.take n++[l.getD n d]:=by rw [Ycs h,Ya,Yb h];rfl
theorem zcU:valD []=0:=rfl
theorem foldD(a:List UInt8)(n:Nat):a.foldl (fun n c=>10*n+(c.toNat - 48)) n=10 ^ a.length*n+valD a:=by
 induction a generalizing n with
 |nil=>simp [valD]
 |cons c a ih=>
  simp only [Ycl,Ym,valD];rw [ih,ih (10*0+(c.toNat - 48)),YK,YP,YY,Yal];have:10 ^ a.length*(10*n)=10 ^ a.length*10*n:=by rw [Y9]
  omega
theorem zbQ(c:UInt8)(a:List UInt8):valD (c::a)=10 ^ a.length*(c.toNat - 48)+valD a:=by rw [valD,Ycl,foldD];simp
theorem zb3(a b:List UInt8):valD (a++b)=10 ^ b.length*valD a+valD b:=by rw [valD,List.foldl_append,foldD];rfl
theorem zbP(a:List UInt8)(c:UInt8):valD (a++[c])=10*valD a+(c.toNat - 48):=by rw [zb3];simp [zbQ,zcU]
theorem zbE {c:UInt8}(h:zaV c=true):48≤c.toNat∧c.toNat≤57:=by simpa [zaV] using h
theorem zhm {a:List UInt8}(h:a.all zaV=true):valD a<10 ^ a.length:=by
 induction a with
 |nil=>simp [valD]
 |cons c a ih=>simp only [YbO,Yc]at h;have h1:=zbE h.1;have h2:=ih h.2;rw [zbQ,Ym,YP];have:10 ^ a.length*(c.toNat - 48)≤10 ^ a.length*9:=Y3 _ (by omega);omega
theorem zrq {l:List Nat}{a:List UInt8}{p:Nat}(ho:okL l)(hv:valL l+p*valD (a.take 0)=valD a):limbs (valD a)=zav l:=by rw [za5 ho, ←hv,Ybk,zcU,YY,Y5]
def decF:Nat→Nat→List UInt8
 |0,_=>[]
 |f+1,n=>if n<10 then [UInt8.ofNat (48+n)]else decF f (n / 10)++[UInt8.ofNat (48+n % 10)]
def dec(n:Nat):List UInt8:=decF (n+1) n
theorem zzJ:∀(f g n:Nat),n<f→n<g→decF f n=decF g n
 |0,_,n,h,_=>by omega
 |_,0,n,_,h=>by omega
 |f+1,g+1,n,h,h'=>by
  simp only [decF];split
  ·rfl
  ·rw [zzJ f g (n / 10) (by omega) (by omega)]
theorem zbC {n:Nat}(h:n<10):dec n=[UInt8.ofNat (48+n)]:=by rw [dec,decF,Yf h]
theorem zdO {n:Nat}(h:10≤n):dec n=dec (n / 10)++[UInt8.ofNat (48+n % 10)]:=by rw [dec,decF,Yd (by omega),zzJ n (n / 10+1) (n / 10) (by omega) (by omega)];rfl
theorem zbx {n:Nat}(h:n<10):(UInt8.ofNat (48+n)).toNat=48+n:=by simp only [UInt8.toNat_ofNat'];omega
theorem zcq(n:Nat):(dec n).all zaV=true:=by
 induction n using Nat.strongRecOn with
 |_ n ih=>
  by_cases h:n<10
  ·rw [zbC h];simp [zaV,zbx h];omega
  ·rw [zdO (by omega),YbL,ih (n / 10) (by omega)];have:n % 10<10:=by omega
   simp [zaV,zbx this];omega
theorem zab(n:Nat):valD (dec n)=n:=by
 induction n using Nat.strongRecOn with
 |_ n ih=>
  by_cases h:n<10
  ·rw [zbC h,zbQ,zbx h];simp [zcU]
  ·rw [zdO (by omega),zbP,ih (n / 10) (by omega),zbx (by omega)];omega
theorem zjQ(n:Nat):dec n≠[]:=by
 by_cases h:n<10
 ·rw [zbC h];simp
 ·rw [zdO (by omega)];simp
theorem zdN(n:Nat):0<(dec n).length:=Ycf.2 (zjQ n)
theorem zrQ {n:Nat}(h:10≤n):((dec n).getD 0 0).toNat≠48:=by
 induction n using Nat.strongRecOn with
 |_ n ih=>
  rw [zdO h];have e:((dec (n / 10)++[UInt8.ofNat (48+n % 10)]).getD 0 0)=(dec (n / 10)).getD 0 0:=by rw [Ya,Ya,Y4 (zdN _)]
  rw [e];by_cases h1:n / 10<10
  ·rw [zbC h1];simp [zbx h1];omega
  ·exact ih (n / 10) (by omega) (by omega)
theorem dec_len_one {n:Nat}:(dec n).length≤1↔n<10:=by
 constructor
 ·intro h;by_cases h1:n<10
  ·exact h1
  ·rw [zdO (by omega),Yi]at h;have:=zdN (n / 10);rw [Yb6]at h;omega
 ·intro h;rw [zbC h];simp
theorem zfW {n:Nat}:zD (dec n)=decide ((dec n).length≤1000):=by
 simp only [zD,zcq,Yaw];have h1:decide (dec n=[])=false:=by simp [zjQ]
 by_cases h:n<10
 ·have:=dec_len_one.2 h;simp [h1,this]
 ·have h2:=zrQ (n:=n) (by omega);have:¬(dec n).length≤1:=by rw [dec_len_one];exact h
  simp only [Ya]at h2;simp [h1,h2]
theorem zg7 {a:List UInt8}(hd:a.all zaV=true)(hne:a≠[])(hz:a.length≤1∨(a.getD 0 0).toNat≠48):dec (valD a)=a:=by
 induction h:a.length generalizing a with
 |zero=>exact absurd (List.length_eq_zero_iff.1 h) hne
 |succ k ih=>
  rcases List.eq_nil_or_concat a with rfl|⟨b,c,rfl⟩
  ·exact absurd rfl hne
  ·rw [List.concat_eq_append]at*;have hdc:zaV c=true:=by rw [YbL,Yc]at hd;simpa using hd.2
   have hdb:b.all zaV=true:=by rw [YbL,Yc]at hd;exact hd.1
   have hc:=zbE hdc;by_cases hb:b=[]
   ·subst hb;simp only [YbK,zbQ,YU,Nat.pow_zero,YaI,zcU,Y5];rw [zbC (by omega),show 48+(c.toNat - 48)=c.toNat by omega];simp
   ·have hbl:0<b.length:=Ycf.2 hb;have hz':(b.getD 0 0).toNat≠48:=by
     rcases hz with hz|hz
     ·rw [Yi,Yb6]at hz;omega
     ·have e:(b++[c]).getD 0 0=b.getD 0 0:=by
       rw [Ya,Ya,Y4 hbl]
      rwa [e]at hz
    have hb2:=ih hdb hb (.inr hz') (by simpa using h);rw [zbP];have hpos:0<valD b:=by
     cases b with
     |nil=>exact absurd rfl hb
     |cons x b=>rw [zbQ];have hx:=zbE (c:=x) (by simp at hdb;exact hdb.1);simp at hz';have:0<10 ^ b.length*(x.toNat - 48):=Ya1 (YcO (by omega)) (by omega);omega
    rw [zdO (by omega),show (10*valD b+(c.toNat - 48)) / 10=valD b by omega,hb2,show 48+(10*valD b+(c.toNat - 48)) % 10=c.toNat by omega];simp
theorem validN_iff {a:List UInt8}:zD a=true↔(dec (valD a)=a∧a.length≤1000)∧a.all zaV=true:=by
 constructor
 ·intro h;simp only [zD,Yc,Yae,Yaa,YS,Yh]at h;obtain⟨⟨⟨h1,h2⟩,h3⟩,h4⟩:=h;exact⟨⟨zg7 h4 h1 h3,h2⟩,h4⟩
 ·rintro⟨⟨h1,h2⟩,_⟩;rw [←h1,zfW,h1];simpa using h2
theorem zS {m n:Nat}(h:dec m=dec n):m=n:=by rw [←zab m,h,zab]
theorem zbM {n k:Nat}(h:n<10 ^ k)(hk:0<k):(dec n).length≤k:=by
 induction k generalizing n with
 |zero=>omega
 |succ k ih=>
  by_cases h1:n<10
  ·rw [zbC h1];simp
  ·rw [zdO (by omega),Yi];have hk0:0<k:=by
    cases k with
    |zero=>simp at h;omega
    |succ k=>omega
   have:=ih (n:=n / 10) (by rw [YaH (by omega)];rw [YP]at h;exact h) hk0;simp;omega
theorem zbs {n k:Nat}(h:(dec n).length≤k):n<10 ^ k:=by have:=zhm (zcq n);rw [zab]at this;exact Yo this (YI (by omega) h)
theorem bk_next {a:List UInt8}{l:List Nat}{i:Nat}(hi:i≤a.length)(hv:valL l+1000000000 ^ l.length*valD (a.take i)=valD a):
 valL (l++[valD ((a.take i).drop (i - 9))])+1000000000 ^ (l++[valD ((a.take i).drop (i - 9))]).length*valD (a.take (i - 9))=valD a:=by
 generalize hP:(1000000000:Nat) ^ l.length=p at*
 have e1:1000000000 ^ (l++[valD ((a.take i).drop (i - 9))]).length=p*1000000000:=by rw [Yi,Yb6,YP,hP]
 rw [e1,zaI,hP, ←hv]
 simp only [valL,YY,Y5]
 have hsplit:valD (a.take i)=1000000000*valD (a.take (i - 9))+valD ((a.take i).drop (i - 9)):=by
  by_cases h9:i<9
  ·have:i - 9=0:=by omega
   rw [this,Ybk,Y2,zcU,YY,Yal]
  ·have e2:a.take i=(a.take i).take (i - 9)++(a.take i).drop (i - 9):=(YaP _ _).symm;have e3:((a.take i).drop (i - 9)).length=9:=by simp;omega
   have e4:(a.take i).take (i - 9)=a.take (i - 9):=by rw [YbW,YaK (by omega)]
   have:=Ya6 valD e2;rw [zb3,e3,e4]at this;exact this
 rw [hsplit,Y9,YK]
 omega
end Go.Pl

namespace Go.Pl
def eachR(F:Nat→Nat→Nat→Nat×Nat)(x y:List Nat):Nat→List Nat×Nat
 |0=>([],0)
 |i+1=>((eachR F x y i).1++[(F (x.getD i 0) (y.getD i 0) (eachR F x y i).2).1],(F (x.getD i 0) (y.getD i 0) (eachR F x y i).2).2)
theorem eachR_len(F:Nat→Nat→Nat→Nat×Nat)(x y:List Nat)(i:Nat):(eachR F x y i).1.length=i:=by
 induction i with
 |zero=>rfl
 |succ i ih=>simp [eachR,ih]
def zdH(F:Nat→Nat→Nat→Nat×Nat)(x y:List Nat):List Nat:=zav (eachR F x y (max x.length y.length+1)).1
theorem zaf(x:List Nat)(i:Nat):valL (x.take (i+1))=valL (x.take i)+1000000000 ^ i*x.getD i 0:=by
 by_cases h:i<x.length
 ·rw [zca x i 0 h,zaI];have:(x.take i).length=i:=by simp;omega
  rw [this];simp [valL]
 ·rw [Yj (by omega),Yj (by omega),za6 _ _ _ (by omega),YY,Y5]
theorem getD_lt {l:List Nat}(h:okL l)(i:Nat):l.getD i 0<1000000000:=by
 rw [Ya];by_cases hi:i<l.length
 ·rw [Yb hi];exact h _ (YZ _)
 ·rw [Ys (by omega)];simp
theorem split_mul(p s:Nat):p*(s % 1000000000)+p*1000000000*(s / 1000000000)=p*s:=by rw [Y9, ←YK,Nat.mod_add_div]
theorem zdv {l:List Nat}{i d:Nat}(h:l.length=i):valL (l++[d])=valL l+1000000000 ^ i*d:=by rw [zaI,h];simp [valL]
def plusF(a b c:Nat):Nat×Nat:=((a+b+c) % 1000000000,(a+b+c) / 1000000000)
def minusF(a b c:Nat):Nat×Nat:=((a+1000000000 - b - c) % 1000000000,1 - (a+1000000000 - b - c) / 1000000000)
def zG(k:Nat)(a _b c:Nat):Nat×Nat:=((a*k+c) % 1000000000,(a*k+c) / 1000000000)
theorem okL_each {F:Nat→Nat→Nat→Nat×Nat}{x y:List Nat}(hF:∀ a b c,(F a b c).1<1000000000)(i:Nat):okL (eachR F x y i).1:=by
 induction i with
 |zero=>intro d hd;cases hd
 |succ i ih=>show okL (_++[_]);rw [okL_append];exact⟨ih,fun d hd=>by simp at hd;subst hd;exact hF _ _ _⟩
theorem plusF_ok(a b c:Nat):(plusF a b c).1<1000000000:=YaM _ (by omega)
theorem minusF_ok(a b c:Nat):(minusF a b c).1<1000000000:=YaM _ (by omega)
theorem zfn(k a b c:Nat):(zG k a b c).1<1000000000:=YaM _ (by omega)
theorem plus_inv(x y:List Nat)(i:Nat):valL (eachR plusF x y i).1+1000000000 ^ i*(eachR plusF x y i).2=valL (x.take i)+valL (y.take i):=by
 induction i with
 |zero=>simp [eachR,valL]
 |succ i ih=>rw [zaf,zaf];show valL (_++[_])+_*(plusF _ _ _).2=_;rw [zdv (eachR_len plusF x y i)];show _+_*((x.getD i 0+y.getD i 0+(eachR plusF x y i).2) % 1000000000)+_*((x.getD i 0+y.getD i 0+(eachR plusF x y i).2) / 1000000000)=_;rw [YP];generalize (1000000000:Nat) ^ i=p at*;have h:=split_mul p (x.getD i 0+y.getD i 0+(eachR plusF x y i).2);generalize x.getD i 0=a at*;generalize y.getD i 0=b at*;generalize (eachR plusF x y i).2=c at*;rw [YK,YK]at h;omega
theorem zq9 {x y:List Nat}(hx:okL x)(hy:okL y):zdH plusF x y=limbs (valL x+valL y):=by
 unfold zdH;generalize hN:max x.length y.length=N;rw [za5 (okL_each plusF_ok _)];have h:=plus_inv x y (N+1);rw [Yj (by omega),Yj (by omega)]at h;have h1:=valL_lt hx;have h2:=valL_lt hy;have h3:(1000000000:Nat) ^ x.length≤1000000000 ^ N:=YI (by omega) (by omega);have h4:(1000000000:Nat) ^ y.length≤1000000000 ^ N:=YI (by omega) (by omega);rw [YP]at h;generalize (1000000000:Nat) ^ N=p at*;have h5:(eachR plusF x y (N+1)).2=0:=by
  rcases YD (eachR plusF x y (N+1)).2 with h0|h0
  ·exact h0
  ·have:p*1000000000*1≤p*1000000000*(eachR plusF x y (N+1)).2:=Y3 _ h0;omega
 rw [h5,YY,Y5]at h;rw [h]
theorem minus_carry(x y:List Nat)(i:Nat):(eachR minusF x y i).2≤1:=by
 cases i with
 |zero=>simp [eachR]
 |succ i=>show (minusF _ _ _).2≤1;unfold minusF;omega
theorem minus_inv(x y:List Nat)(hx:okL x)(hy:okL y)(i:Nat):valL (eachR minusF x y i).1+valL (y.take i)=valL (x.take i)+1000000000 ^ i*(eachR minusF x y i).2:=by
 induction i with
 |zero=>simp [eachR,valL]
 |succ i ih=>
  rw [zaf,zaf];have hc:=minus_carry x y i;have ha:=getD_lt hx i;have hb:=getD_lt hy i;show valL (_++[_])+_=_+_*(minusF _ _ _).2;rw [zdv (eachR_len minusF x y i)];show _+_*((x.getD i 0+1000000000 - y.getD i 0 - (eachR minusF x y i).2) % 1000000000)+_=_+_*(1 - (x.getD i 0+1000000000 - y.getD i 0 - (eachR minusF x y i).2) / 1000000000);rw [YP];generalize (1000000000:Nat) ^ i=p at*;generalize x.getD i 0=a at*;generalize y.getD i 0=b at*;generalize (eachR minusF x y i).2=c at*;by_cases h:a+1000000000 - b - c<1000000000
  ·have e1:(a+1000000000 - b - c) % 1000000000=a+1000000000 - b - c:=Ycd h;have e2:(a+1000000000 - b - c) / 1000000000=0:=Ycc h;rw [e1,e2];have h2:p*(a+1000000000 - b - c)+p*b+p*c=p*a+p*1000000000:=by rw [←YK, ←YK, ←YK];congr 1;omega
   simp only [Ybo,Yap];omega
  ·have e1:(a+1000000000 - b - c) % 1000000000=a - b - c:=by omega
   have e2:(a+1000000000 - b - c) / 1000000000=1:=by omega
   rw [e1,e2];have h2:p*(a - b - c)+p*b+p*c=p*a:=by rw [←YK, ←YK];congr 1;omega
   simp only [Ybp,YY];omega
theorem zmT {x y:List Nat}(hx:okL x)(hy:okL y)(hle:valL y≤valL x):zdH minusF x y=limbs (valL x - valL y):=by
 unfold zdH;generalize hN:max x.length y.length=N;rw [za5 (okL_each minusF_ok _)];have h:=minus_inv x y hx hy (N+1);rw [Yj (by omega),Yj (by omega)]at h;have h6:=valL_lt (okL_each (x:=x) (y:=y) minusF_ok (N+1));rw [eachR_len]at h6;have h7:=minus_carry x y (N+1);generalize (1000000000:Nat) ^ (N+1)=p at*;have h5:(eachR minusF x y (N+1)).2=0:=by
  rcases YD (eachR minusF x y (N+1)).2 with h0|h0
  ·exact h0
  ·have:(eachR minusF x y (N+1)).2=1:=by omega
   rw [this,Yap]at h;omega
 rw [h5,YY,Y5]at h;congr 1;omega
theorem zhG {k:Nat}(hk:k<1000000000)(x:List Nat)(hx:okL x)(y:List Nat)(i:Nat):(eachR (zG k) x y i).2<1000000000:=by
 induction i with
 |zero=>simp [eachR]
 |succ i ih=>have ha:=getD_lt hx i;have:x.getD i 0*k≤999999999*999999999:=Yak (by omega) (by omega);show (x.getD i 0*k+(eachR (zG k) x y i).2) / 1000000000<1000000000;generalize x.getD i 0*k=q at*;omega
theorem zhF(k:Nat)(x y:List Nat)(i:Nat):valL (eachR (zG k) x y i).1+1000000000 ^ i*(eachR (zG k) x y i).2=valL (x.take i)*k:=by
 induction i with
 |zero=>simp [eachR,valL]
 |succ i ih=>rw [zaf];show valL ((eachR (zG k) x y i).1++[(zG k (x.getD i 0) (y.getD i 0) (eachR (zG k) x y i).2).1])+_*(zG k (x.getD i 0) (y.getD i 0) (eachR (zG k) x y i).2).2=_;rw [zdv (eachR_len (zG k) x y i)];show _+_*((x.getD i 0*k+(eachR (zG k) x y i).2) % 1000000000)+_*((x.getD i 0*k+(eachR (zG k) x y i).2) / 1000000000)=_;rw [YP,YV];generalize (1000000000:Nat) ^ i=p at*;have h:=split_mul p (x.getD i 0*k+(eachR (zG k) x y i).2);rw [YK, ←Y9]at h;generalize p*x.getD i 0*k=q at*;omega
theorem zhE {k:Nat}{x:List Nat}(hk:k<1000000000)(hx:okL x):zdH (zG k) x []=limbs (valL x*k):=by
 unfold zdH;generalize hN:max x.length ([]:List Nat).length=N;have hN':x.length≤N:=by omega
 rw [za5 (okL_each (zfn k) _)];have h:=zhF k x [] (N+1);rw [Yj (by omega)]at h;have h1:=valL_lt hx;have h3:(1000000000:Nat) ^ x.length≤1000000000 ^ N:=YI (by omega) (by omega);have h5:(eachR (zG k) x [] (N+1)).2=0:=by
  rcases YD (eachR (zG k) x [] (N+1)).2 with h0|h0
  ·exact h0
  ·exfalso;have h8:valL x*k<1000000000 ^ (N+1):=by rw [YP];exact Yo (Ybr (Yo h1 h3) (YbA hk) (by omega)) (Ye _)
   have h9:1000000000 ^ (N+1)*1≤1000000000 ^ (N+1)*(eachR (zG k) x [] (N+1)).2:=Y3 _ h0;generalize (1000000000:Nat) ^ (N+1)=p at*;omega
 rw [h5,YY,Y5]at h;rw [h]
theorem zaY {x y:Nat}(h:(limbs x).length<(limbs y).length):x<y:=by
 rcases YaG x y with h1|h1
 ·exact h1
 ·have h2:=valL_lt (zF x);rw [zC]at h2;have:=zaN (YaN h1 h2);omega
theorem zbo(l:List Nat)(k:Nat)(hk:k<l.length):valL l=valL (l.take k)+1000000000 ^ k*(l.getD k 0+1000000000*valL (l.drop (k+1))):=by
 have e:l=l.take k++(l.getD k 0::l.drop (k+1)):=by
  conv=>lhs;rw [←YaP k l]
  congr 1;rw [YaV hk,Ya,Yb hk];rfl
 have h:(l.take k).length=k:=by simp;omega
 conv=>lhs;rw [e]
 rw [zaI,h,valL]
theorem zfX {l r:List Nat}{k:Nat}(ho:okL l)(hlen:l.length=r.length)(hk:k<l.length)(hd:∀ j,k<j→l.getD j 0=r.getD j 0)(h:l.getD k 0<r.getD k 0):valL l<valL r:=by
 have e:l.drop (k+1)=r.drop (k+1):=by
  apply YaU;intro i;rw [Yag,Yag];have:=hd (k+1+i) (by omega);rw [Ya,Ya]at this;by_cases hi:k+1+i<l.length
  ·rw [Yb hi,Yb (by omega)]at this ⊢;simpa using this
  ·rw [Ys (by omega),Ys (by omega)]
 rw [zbo l k hk,zbo r k (by omega),e];have h1:valL (l.take k)<1000000000 ^ k:=by
  have:=valL_lt (l:=l.take k) (fun d hd=>ho d (Ybh hd));have h2:(l.take k).length=k:=by simp;omega
  rwa [h2]at this
 generalize (1000000000:Nat) ^ k=p at*;generalize valL (r.drop (k+1))=q at*;have h3:p*(l.getD k 0+1000000000*q)+p≤p*(r.getD k 0+1000000000*q):=by rw [←Nat.mul_succ];exact Y3 _ (by omega)
 omega
theorem znv {l r:List Nat}(hlen:l.length=r.length)(hd:∀ j,l.getD j 0=r.getD j 0):l=r:=by
 apply YaU;intro i;have:=hd i;rw [Ya,Ya]at this;by_cases hi:i<l.length
 ·rw [Yb hi,Yb (by omega)]at this ⊢;simpa using this
 ·rw [Ys (by omega),Ys (by omega)]
theorem zrr {n k:Nat}(h:n<10 ^ k):(limbs n).length≤k:=zaN (Yo h (Nat.pow_le_pow_left (by omega) k))
theorem zbK {a:List UInt8}{k:Nat}(hd:a.all zaV=true)(hl:a.length≤k):(limbs (valD a)).length≤k:=
 zrr (Yo (zhm hd) (YI (by omega) hl))
theorem zm0 {x y k:Nat}(hx:(limbs x).length≤k)(hy:(limbs y).length≤k):(limbs (x+y)).length≤k+1:=by apply zaN;have h1:=valL_lt (zF x);have h2:=valL_lt (zF y);rw [zC]at h1 h2;have h3:(1000000000:Nat) ^ (limbs x).length≤1000000000 ^ k:=YI (by omega) hx;have h4:(1000000000:Nat) ^ (limbs y).length≤1000000000 ^ k:=YI (by omega) hy;rw [YP];generalize (1000000000:Nat) ^ k=p at*;omega
theorem zmY {x y k:Nat}(hx:(limbs x).length≤k):(limbs (x - y)).length≤k:=by apply zaN;have h1:=valL_lt (zF x);rw [zC]at h1;have h3:(1000000000:Nat) ^ (limbs x).length≤1000000000 ^ k:=YI (by omega) hx;omega
theorem zmZ {x y j k:Nat}(hx:(limbs x).length≤j)(hy:(limbs y).length≤k):(limbs (x*y)).length≤j+k:=by apply zaN;have h1:=valL_lt (zF x);have h2:=valL_lt (zF y);rw [zC]at h1 h2;have h3:(1000000000:Nat) ^ (limbs x).length≤1000000000 ^ j:=YI (by omega) hx;have h4:(1000000000:Nat) ^ (limbs y).length≤1000000000 ^ k:=YI (by omega) hy;rw [Ycn];exact Ybr (Yo h1 h3) (YbA (Yo h2 h4)) (YcO (by omega))
end Go.Pl

namespace Go.Pl
theorem zks {l:List Nat}{j d:Nat}(hj:j<l.length):valL (l.set j d)+1000000000 ^ j*l.getD j 0=valL l+1000000000 ^ j*d:=by
 have h1:=zbo l j hj;have h2:=zbo (l.set j d) j (by simpa using hj);have e1:(l.set j d).take j=l.take j:=by rw [Ych (Ye _)]
 have e2:(l.set j d).drop (j+1)=l.drop (j+1):=by rw [Yci (by omega)]
 have e3:(l.set j d).getD j 0=d:=by rw [Ya,YbB (by simpa using hj)];rfl
 rw [e1,e2,e3]at h2;rw [h1,h2];generalize (1000000000:Nat) ^ j=p at*;generalize 1000000000*valL (l.drop (j+1))=q at*;rw [YK,YK];omega
theorem zbG {l:List Nat}{i j d:Nat}(h:i≠j):(l.set i d).getD j 0=l.getD j 0:=by rw [Ya,List.getElem?_set_ne h,Ya]
theorem zeZ {l:List Nat}{i d:Nat}(h:okL l)(hd:d<1000000000):okL (l.set i d):=by
 intro x hx;rcases Ya7 hx with h1|h1
 ·exact h x h1
 ·omega
def mulInv(x y:List Nat)(i V0 k:Nat)(l:List Nat)(c:Nat):Prop:=
 l.length=x.length+y.length+1∧okL l∧c<1000000000∧valL l+1000000000 ^ (i+k)*c=V0+1000000000 ^ i*(x.getD i 0*valL (y.take k))∧
 (k≤y.length→l.getD (i+y.length) 0=0)∧(∀ j,i+y.length<j→l.getD j 0=0)∧(k=y.length+1→c=0)
def mulP(x y:List Nat)(i k:Nat)(l:List Nat)(c:Nat):Nat:=l.getD (i+k) 0+c+x.getD i 0*y.getD k 0
theorem mulP_lt {x y:List Nat}{i k:Nat}{l:List Nat}{c:Nat}(hx:okL x)(hy:okL y)(hl:okL l)(hc:c<1000000000):mulP x y i k l c<1000000000000000000∧x.getD i 0*y.getD k 0≤999999998000000001:=by have h1:=getD_lt hx i;have h2:=getD_lt hy k;have h3:=getD_lt hl (i+k);have h4:x.getD i 0*y.getD k 0≤999999999*999999999:=Yak (by omega) (by omega);unfold mulP;generalize x.getD i 0*y.getD k 0=q at*;omega
theorem mul_step {x y:List Nat}{i V0 k:Nat}{l:List Nat}{c:Nat}(hx:okL x)(hy:okL y)(hi:i<x.length)(hk:k≤y.length)(h:mulInv x y i V0 k l c):
 mulInv x y i V0 (k+1) (l.set (i+k) (mulP x y i k l c % 1000000000)) (mulP x y i k l c / 1000000000):=by
 obtain⟨h1,h2,h3,h4,h5,h6,h7⟩:=h
 have hb:=(mulP_lt (i:=i) (k:=k) hx hy h2 h3).1
 have hj:i+k<l.length:=by omega
 refine⟨by simpa using h1,zeZ h2 (YaM _ (by omega)),by omega,?_,fun hk'=>?_,fun j hj'=>?_,fun hk'=>?_⟩
 ·have hs:=zks (d:=mulP x y i k l c % 1000000000) hj
  rw [zaf, ←YN,YP]
  have hp:1000000000 ^ (i+k)=(1000000000:Nat) ^ i*1000000000 ^ k:=Ycn _ _ _
  have hsp:=split_mul (1000000000 ^ (i+k)) (mulP x y i k l c)
  have hexp:1000000000 ^ (i+k)*mulP x y i k l c=1000000000 ^ (i+k)*l.getD (i+k) 0+1000000000 ^ (i+k)*c+1000000000 ^ i*(x.getD i 0*(1000000000 ^ k*y.getD k 0)):=by rw [hp];unfold mulP;rw [YK,YK];congr 1;rw [Y9];congr 1;rw [←Y9, ←Y9,Yay (1000000000 ^ k) (x.getD i 0)]
  rw [YK (x.getD i 0),YK (1000000000 ^ i)]
  generalize 1000000000 ^ i*(x.getD i 0*valL (y.take k))=a1 at*
  generalize 1000000000 ^ i*(x.getD i 0*(1000000000 ^ k*y.getD k 0))=a2 at*
  generalize (1000000000:Nat) ^ (i+k)=p at*
  generalize p*(mulP x y i k l c % 1000000000)=a3 at*
  generalize p*1000000000*(mulP x y i k l c / 1000000000)=a4 at*
  generalize p*mulP x y i k l c=a5 at*
  generalize p*l.getD (i+k) 0=a6 at*
  generalize p*c=a7 at*
  omega
 ·rw [zbG (by omega)];exact h5 (by omega)
 ·rw [zbG (by omega)];exact h6 j hj'
 ·have hke:k=y.length:=by omega
  subst hke
  have e:mulP x y i y.length l c=c:=by unfold mulP;rw [h5 (Ye _),za6 y y.length 0 (Ye _)];simp
  rw [e];omega
def mulOut(x y:List Nat)(i:Nat)(l:List Nat):Prop:=
 l.length=x.length+y.length+1∧okL l∧valL l=valL (x.take i)*valL y∧∀ j,i+y.length≤j→l.getD j 0=0
theorem mul_start(x y:List Nat):mulOut x y 0 (List.replicate (x.length+y.length+1) 0):=by
 have hv:∀ n,valL (List.replicate n 0)=0:=by intro n;induction n with
  |zero=>rfl
  |succ n ih=>rw [Ybs,valL,ih]
 refine⟨by simp,fun d hd=>by have:=Ybe hd;omega,by rw [hv];simp [valL],fun j _=>?_⟩;rw [Ya,Yby];split<;>rfl
theorem mul_row {x y:List Nat}{i:Nat}{l:List Nat}(h:mulOut x y i l):mulInv x y i (valL l) 0 l 0:=by obtain⟨h1,h2,h3,h4⟩:=h;exact⟨h1,h2,by omega,by simp [valL],fun _=>h4 _ (Ye _),fun j hj=>h4 j (by omega),fun h=>by omega⟩
theorem mul_end {x y:List Nat}{i:Nat}{l0 l:List Nat}{c:Nat}(h0:mulOut x y i l0)(h:mulInv x y i (valL l0) (y.length+1) l c):mulOut x y (i+1) l:=by obtain⟨h1,h2,h3,h4,h5,h6,h7⟩:=h;refine⟨h1,h2,?_,fun j hj=>h6 j (by omega)⟩;rw [h7 rfl,YY,Y5,h0.2.2.1,Yj (l:=y) (by omega)]at h4;rw [h4,zaf x i,YV,Y9]
theorem zri {x y:List Nat}{l:List Nat}(h:mulOut x y x.length l):zav l=limbs (valL x*valL y):=by rw [za5 h.2.1,h.2.2.1,YQ]
end Go.Pl

namespace Go.Ten
def valL:List Nat→Nat
 |[]=>0
 |d::l=>d+10*valL l
def okL(l:List Nat):Prop:=∀ d∈l,d<10
def zav:List Nat→List Nat
 |[]=>[]
 |d::l=>if d=0∧zav l=[]then []else d::zav l
def zcl:Nat→Nat→List Nat
 |0,_=>[]
 |f+1,n=>if n=0 then []else n % 10::zcl f (n / 10)
def limbs(n:Nat):List Nat:=zcl n n
theorem zeg:∀(f g n:Nat),n≤f→n≤g→zcl f n=zcl g n
 |0,g,n,h,_=>by
  have:n=0:=by omega
  subst this;cases g<;>simp [zcl]
 |f+1,0,n,_,h=>by
  have:n=0:=by omega
  subst this;simp [zcl]
 |f+1,g+1,n,h,h'=>by
  simp only [zcl];split
  ·rfl
  ·rw [zeg f g (n / 10) (by omega) (by omega)]
theorem zaL:limbs 0=[]:=rfl
theorem zaX {n:Nat}(h:n≠0):limbs n=n % 10::limbs (n / 10):=by unfold limbs;obtain⟨m,rfl⟩:∃ m,n=m+1:=⟨n - 1,by omega⟩;rw [zcl,Yd h,zeg m ((m+1) / 10) ((m+1) / 10) (by omega) (Ye _)]
theorem limbs_nil {n:Nat}:limbs n=[]↔n=0:=by
 constructor
 ·intro h;by_cases h0:n=0
  ·exact h0
  ·rw [zaX h0]at h;cases h
 ·rintro rfl;rfl
theorem zC(n:Nat):valL (limbs n)=n:=by
 induction n using Nat.strongRecOn with
 |_ n ih=>
  by_cases h:n=0
  ·subst h;rfl
  ·rw [zaX h,valL,ih (n / 10) (by omega)];omega
theorem zF(n:Nat):okL (limbs n):=by
 induction n using Nat.strongRecOn with
 |_ n ih=>
  by_cases h:n=0
  ·subst h;intro d hd;cases hd
  ·rw [zaX h];intro d hd;rcases YA.1 hd with rfl|hd
   ·omega
   ·exact ih (n / 10) (by omega) d hd
theorem okL_cons {d:Nat}{l:List Nat}:okL (d::l)↔d<10∧okL l:=by simp [okL]
theorem okL_append {l r:List Nat}:okL (l++r)↔okL l∧okL r:=by simp only [okL,Yaf];exact⟨fun h=>⟨fun d hd=>h d (.inl hd),fun d hd=>h d (.inr hd)⟩,fun h d hd=>hd.elim (h.1 d) (h.2 d)⟩
theorem za5 {l:List Nat}(h:okL l):zav l=limbs (valL l):=by
 induction l with
 |nil=>rfl
 |cons d l ih=>
  rw [okL_cons]at h;rw [zav,ih h.2,valL];have hd:=h.1;by_cases h0:d+10*valL l=0
  ·rw [h0,zaL,Yf ⟨by omega,limbs_nil.2 (by omega)⟩]
  ·rw [zaX h0,Yd (by rw [limbs_nil];omega)];congr 1
   ·omega
   ·congr 1;omega
theorem zaI(l r:List Nat):valL (l++r)=valL l+10 ^ l.length*valL r:=by
 induction l with
 |nil=>simp [valL]
 |cons d l ih=>simp only [YbE,valL,ih,Ym,YP,YK, ←Y9];rw [Yay (10 ^ l.length) 10];omega
theorem valL_lt {l:List Nat}(h:okL l):valL l<10 ^ l.length:=by
 induction l with
 |nil=>simp [valL]
 |cons d l ih=>
  rw [okL_cons]at h;have:=ih h.2;simp only [valL,Ym,YP];have h1:=h.1;have:10*valL l+10≤10*10 ^ l.length:=by rw [←Nat.mul_succ];exact Y3 _ this
  omega
theorem zdb {l:List Nat}{n:Nat}(hn:n≤l.length)(h:∀ j,n≤j→l.getD j 0=0)(h2:n=0∨l.getD (n - 1) 0≠0):zav l=l.take n:=by
 induction l generalizing n with
 |nil=>simp [zav]
 |cons d l ih=>
  cases n with
  |zero=>
   have hd:=h 0 (Ye _);have hl:zav l=[]:=by rw [ih (n:=0) (Yk _) (fun j _=>h (j+1) (Yk _)) (.inl rfl)];simp
   simp at hd;simp [zav,hd,hl]
  |succ n=>
   have hl:=ih (n:=n) (by simpa using hn) (fun j hj=>by have:=h (j+1) (by omega);simpa using this) (by
    cases n with
    |zero=>exact .inl rfl
    |succ n=>right;rcases h2 with h2|h2;omega;simpa using h2)
   rw [zav,hl,YbS,Yd];rintro⟨hd,hnil⟩;rcases h2 with h2|h2
   ·omega
   ·cases n with
    |zero=>simp at h2;exact h2 hd
    |succ n=>
     have:l.length=0:=by have:=Ya6 List.length hnil;simp at this;simp [this]
     simp at hn;omega
theorem zcz {n:Nat}(h:n≠0):(limbs n).getD ((limbs n).length - 1) 0≠0:=by
 induction n using Nat.strongRecOn with
 |_ n ih=>
  rw [zaX h];by_cases h1:n / 10=0
  ·rw [h1,zaL];simp;omega
  ·have:=ih (n / 10) (by omega) h1;have hne:limbs (n / 10)≠[]:=by rw [ne_eq,limbs_nil];exact h1
   obtain⟨d,r,hdr⟩:=List.exists_cons_of_ne_nil hne;rw [hdr]at this ⊢;simpa using this
theorem zaN {n k:Nat}(h:n<10 ^ k):(limbs n).length≤k:=by
 induction k generalizing n with
 |zero=>have:n=0:=by simpa using h
        subst this;simp [zaL]
 |succ k ih=>
  by_cases h0:n=0
  ·subst h0;simp [zaL]
  ·rw [zaX h0,Ym];have:n / 10<10 ^ k:=by rw [YaH (by omega)];rw [YP]at h;exact h
   have:=ih this;omega
theorem getD_drop {α:Type}(l:List α)(a b:Nat)(d:α):(l.drop a).getD b d=l.getD (a+b) d:=by simp [Ya]
theorem getD_take {α:Type}(l:List α)(n i:Nat)(d:α)(h:i<n):(l.take n).getD i d=l.getD i d:=by simp [Ya,h]
theorem za6 {α:Type}(l:List α)(i:Nat)(d:α)(h:l.length≤i):l.getD i d=d:=by simp [Ya,h]
theorem zca {α:Type}(l:List α)(n:Nat)(d:α)(h:n<l.length):l.take (n+1)=l.take n++[l.getD n d]:=by rw [Ycs h,Ya,Yb h];rfl
def eachR(F:Nat→Nat→Nat→Nat×Nat)(x y:List Nat):Nat→List Nat×Nat
 |0=>([],0)
 |i+1=>((eachR F x y i).1++[(F (x.getD i 0) (y.getD i 0) (eachR F x y i).2).1],(F (x.getD i 0) (y.getD i 0) (eachR F x y i).2).2)
theorem eachR_len(F:Nat→Nat→Nat→Nat×Nat)(x y:List Nat)(i:Nat):(eachR F x y i).1.length=i:=by
 induction i with
 |zero=>rfl
 |succ i ih=>simp [eachR,ih]
def zdH(F:Nat→Nat→Nat→Nat×Nat)(x y:List Nat):List Nat:=zav (eachR F x y (max x.length y.length+1)).1
theorem zaf(x:List Nat)(i:Nat):valL (x.take (i+1))=valL (x.take i)+10 ^ i*x.getD i 0:=by
 by_cases h:i<x.length
 ·rw [zca x i 0 h,zaI];have:(x.take i).length=i:=by simp;omega
  rw [this];simp [valL]
 ·rw [Yj (by omega),Yj (by omega),za6 _ _ _ (by omega),YY,Y5]
theorem getD_lt {l:List Nat}(h:okL l)(i:Nat):l.getD i 0<10:=by
 rw [Ya];by_cases hi:i<l.length
 ·rw [Yb hi];exact h _ (YZ _)
 ·rw [Ys (by omega)];simp
theorem split_mul(p s:Nat):p*(s % 10)+p*10*(s / 10)=p*s:=by rw [Y9, ←YK,Nat.mod_add_div]
theorem zdv {l:List Nat}{i d:Nat}(h:l.length=i):valL (l++[d])=valL l+10 ^ i*d:=by rw [zaI,h];simp [valL]
def plusF(a b c:Nat):Nat×Nat:=((a+b+c) % 10,(a+b+c) / 10)
def minusF(a b c:Nat):Nat×Nat:=((a+10 - b - c) % 10,1 - (a+10 - b - c) / 10)
def zG(k:Nat)(a _b c:Nat):Nat×Nat:=((a*k+c) % 10,(a*k+c) / 10)
theorem okL_each {F:Nat→Nat→Nat→Nat×Nat}{x y:List Nat}(hF:∀ a b c,(F a b c).1<10)(i:Nat):okL (eachR F x y i).1:=by
 induction i with
 |zero=>intro d hd;cases hd
 |succ i ih=>show okL (_++[_]);rw [okL_append];exact⟨ih,fun d hd=>by simp at hd;subst hd;exact hF _ _ _⟩
theorem plusF_ok(a b c:Nat):(plusF a b c).1<10:=YaM _ (by omega)
theorem minusF_ok(a b c:Nat):(minusF a b c).1<10:=YaM _ (by omega)
theorem zfn(k a b c:Nat):(zG k a b c).1<10:=YaM _ (by omega)
theorem plus_inv(x y:List Nat)(i:Nat):valL (eachR plusF x y i).1+10 ^ i*(eachR plusF x y i).2=valL (x.take i)+valL (y.take i):=by
 induction i with
 |zero=>simp [eachR,valL]
 |succ i ih=>rw [zaf,zaf];show valL (_++[_])+_*(plusF _ _ _).2=_;rw [zdv (eachR_len plusF x y i)];show _+_*((x.getD i 0+y.getD i 0+(eachR plusF x y i).2) % 10)+_*((x.getD i 0+y.getD i 0+(eachR plusF x y i).2) / 10)=_;rw [YP];generalize (10:Nat) ^ i=p at*;have h:=split_mul p (x.getD i 0+y.getD i 0+(eachR plusF x y i).2);generalize x.getD i 0=a at*;generalize y.getD i 0=b at*;generalize (eachR plusF x y i).2=c at*;rw [YK,YK]at h;omega
theorem zq9 {x y:List Nat}(hx:okL x)(hy:okL y):zdH plusF x y=limbs (valL x+valL y):=by
 unfold zdH;generalize hN:max x.length y.length=N;rw [za5 (okL_each plusF_ok _)];have h:=plus_inv x y (N+1);rw [Yj (by omega),Yj (by omega)]at h;have h1:=valL_lt hx;have h2:=valL_lt hy;have h3:(10:Nat) ^ x.length≤10 ^ N:=YI (by omega) (by omega);have h4:(10:Nat) ^ y.length≤10 ^ N:=YI (by omega) (by omega);rw [YP]at h;generalize (10:Nat) ^ N=p at*;have h5:(eachR plusF x y (N+1)).2=0:=by
  rcases YD (eachR plusF x y (N+1)).2 with h0|h0
  ·exact h0
  ·have:p*10*1≤p*10*(eachR plusF x y (N+1)).2:=Y3 _ h0;omega
 rw [h5,YY,Y5]at h;rw [h]
theorem minus_carry(x y:List Nat)(i:Nat):(eachR minusF x y i).2≤1:=by
 cases i with
 |zero=>simp [eachR]
 |succ i=>show (minusF _ _ _).2≤1;unfold minusF;omega
theorem minus_inv(x y:List Nat)(hx:okL x)(hy:okL y)(i:Nat):valL (eachR minusF x y i).1+valL (y.take i)=valL (x.take i)+10 ^ i*(eachR minusF x y i).2:=by
 induction i with
 |zero=>simp [eachR,valL]
 |succ i ih=>
  rw [zaf,zaf];have hc:=minus_carry x y i;have ha:=getD_lt hx i;have hb:=getD_lt hy i;show valL (_++[_])+_=_+_*(minusF _ _ _).2;rw [zdv (eachR_len minusF x y i)];show _+_*((x.getD i 0+10 - y.getD i 0 - (eachR minusF x y i).2) % 10)+_=_+_*(1 - (x.getD i 0+10 - y.getD i 0 - (eachR minusF x y i).2) / 10);rw [YP];generalize (10:Nat) ^ i=p at*;generalize x.getD i 0=a at*;generalize y.getD i 0=b at*;generalize (eachR minusF x y i).2=c at*;by_cases h:a+10 - b - c<10
  ·have e1:(a+10 - b - c) % 10=a+10 - b - c:=Ycd h;have e2:(a+10 - b - c) / 10=0:=Ycc h;rw [e1,e2];have h2:p*(a+10 - b - c)+p*b+p*c=p*a+p*10:=by rw [←YK, ←YK, ←YK];congr 1;omega
   simp only [Ybo,Yap];omega
  ·have e1:(a+10 - b - c) % 10=a - b - c:=by omega
   have e2:(a+10 - b - c) / 10=1:=by omega
   rw [e1,e2];have h2:p*(a - b - c)+p*b+p*c=p*a:=by rw [←YK, ←YK];congr 1;omega
   simp only [Ybp,YY];omega
theorem zmT {x y:List Nat}(hx:okL x)(hy:okL y)(hle:valL y≤valL x):zdH minusF x y=limbs (valL x - valL y):=by
 unfold zdH;generalize hN:max x.length y.length=N;rw [za5 (okL_each minusF_ok _)];have h:=minus_inv x y hx hy (N+1);rw [Yj (by omega),Yj (by omega)]at h;have h6:=valL_lt (okL_each (x:=x) (y:=y) minusF_ok (N+1));rw [eachR_len]at h6;have h7:=minus_carry x y (N+1);generalize (10:Nat) ^ (N+1)=p at*;have h5:(eachR minusF x y (N+1)).2=0:=by
  rcases YD (eachR minusF x y (N+1)).2 with h0|h0
  ·exact h0
  ·have:(eachR minusF x y (N+1)).2=1:=by omega
   rw [this,Yap]at h;omega
 rw [h5,YY,Y5]at h;congr 1;omega
theorem zhG {k:Nat}(hk:k<10)(x:List Nat)(hx:okL x)(y:List Nat)(i:Nat):(eachR (zG k) x y i).2<10:=by
 induction i with
 |zero=>simp [eachR]
 |succ i ih=>have ha:=getD_lt hx i;have:x.getD i 0*k≤9*9:=Yak (by omega) (by omega);show (x.getD i 0*k+(eachR (zG k) x y i).2) / 10<10;generalize x.getD i 0*k=q at*;omega
theorem zhF(k:Nat)(x y:List Nat)(i:Nat):valL (eachR (zG k) x y i).1+10 ^ i*(eachR (zG k) x y i).2=valL (x.take i)*k:=by
 induction i with
 |zero=>simp [eachR,valL]
 |succ i ih=>rw [zaf];show valL ((eachR (zG k) x y i).1++[(zG k (x.getD i 0) (y.getD i 0) (eachR (zG k) x y i).2).1])+_*(zG k (x.getD i 0) (y.getD i 0) (eachR (zG k) x y i).2).2=_;rw [zdv (eachR_len (zG k) x y i)];show _+_*((x.getD i 0*k+(eachR (zG k) x y i).2) % 10)+_*((x.getD i 0*k+(eachR (zG k) x y i).2) / 10)=_;rw [YP,YV];generalize (10:Nat) ^ i=p at*;have h:=split_mul p (x.getD i 0*k+(eachR (zG k) x y i).2);rw [YK, ←Y9]at h;generalize p*x.getD i 0*k=q at*;omega
theorem zhE {k:Nat}{x:List Nat}(hk:k<10)(hx:okL x):zdH (zG k) x []=limbs (valL x*k):=by
 unfold zdH;generalize hN:max x.length ([]:List Nat).length=N;have hN':x.length≤N:=by omega
 rw [za5 (okL_each (zfn k) _)];have h:=zhF k x [] (N+1);rw [Yj (by omega)]at h;have h1:=valL_lt hx;have h3:(10:Nat) ^ x.length≤10 ^ N:=YI (by omega) (by omega);have h5:(eachR (zG k) x [] (N+1)).2=0:=by
  rcases YD (eachR (zG k) x [] (N+1)).2 with h0|h0
  ·exact h0
  ·exfalso;have h8:valL x*k<10 ^ (N+1):=by rw [YP];exact Yo (Ybr (Yo h1 h3) (YbA hk) (by omega)) (Ye _)
   have h9:10 ^ (N+1)*1≤10 ^ (N+1)*(eachR (zG k) x [] (N+1)).2:=Y3 _ h0;generalize (10:Nat) ^ (N+1)=p at*;omega
 rw [h5,YY,Y5]at h;rw [h]
theorem zaY {x y:Nat}(h:(limbs x).length<(limbs y).length):x<y:=by
 rcases YaG x y with h1|h1
 ·exact h1
 ·have h2:=valL_lt (zF x);rw [zC]at h2;have:=zaN (YaN h1 h2);omega
theorem zbo(l:List Nat)(k:Nat)(hk:k<l.length):valL l=valL (l.take k)+10 ^ k*(l.getD k 0+10*valL (l.drop (k+1))):=by
 have e:l=l.take k++(l.getD k 0::l.drop (k+1)):=by
  conv=>lhs;rw [←YaP k l]
  congr 1;rw [YaV hk,Ya,Yb hk];rfl
 have h:(l.take k).length=k:=by simp;omega
 conv=>lhs;rw [e]
 rw [zaI,h,valL]
theorem zfX {l r:List Nat}{k:Nat}(ho:okL l)(hlen:l.length=r.length)(hk:k<l.length)(hd:∀ j,k<j→l.getD j 0=r.getD j 0)(h:l.getD k 0<r.getD k 0):valL l<valL r:=by
 have e:l.drop (k+1)=r.drop (k+1):=by
  apply YaU;intro i;rw [Yag,Yag];have:=hd (k+1+i) (by omega);rw [Ya,Ya]at this;by_cases hi:k+1+i<l.length
  ·rw [Yb hi,Yb (by omega)]at this ⊢;simpa using this
  ·rw [Ys (by omega),Ys (by omega)]
 rw [zbo l k hk,zbo r k (by omega),e];have h1:valL (l.take k)<10 ^ k:=by
  have:=valL_lt (l:=l.take k) (fun d hd=>ho d (Ybh hd));have h2:(l.take k).length=k:=by simp;omega
  rwa [h2]at this
 generalize (10:Nat) ^ k=p at*;generalize valL (r.drop (k+1))=q at*;have h3:p*(l.getD k 0+10*q)+p≤p*(r.getD k 0+10*q):=by rw [←Nat.mul_succ];exact Y3 _ (by omega)
 omega
theorem znv {l r:List Nat}(hlen:l.length=r.length)(hd:∀ j,l.getD j 0=r.getD j 0):l=r:=by
 apply YaU;intro i;have:=hd i;rw [Ya,Ya]at this;by_cases hi:i<l.length
 ·rw [Yb hi,Yb (by omega)]at this ⊢;simpa using this
 ·rw [Ys (by omega),Ys (by omega)]
theorem zrr {n k:Nat}(h:n<10 ^ k):(limbs n).length≤k:=zaN (Yo h (Nat.pow_le_pow_left (by omega) k))
theorem zm0 {x y k:Nat}(hx:(limbs x).length≤k)(hy:(limbs y).length≤k):(limbs (x+y)).length≤k+1:=by apply zaN;have h1:=valL_lt (zF x);have h2:=valL_lt (zF y);rw [zC]at h1 h2;have h3:(10:Nat) ^ (limbs x).length≤10 ^ k:=YI (by omega) hx;have h4:(10:Nat) ^ (limbs y).length≤10 ^ k:=YI (by omega) hy;rw [YP];generalize (10:Nat) ^ k=p at*;omega
theorem zmY {x y k:Nat}(hx:(limbs x).length≤k):(limbs (x - y)).length≤k:=by apply zaN;have h1:=valL_lt (zF x);rw [zC]at h1;have h3:(10:Nat) ^ (limbs x).length≤10 ^ k:=YI (by omega) hx;omega
theorem zmZ {x y j k:Nat}(hx:(limbs x).length≤j)(hy:(limbs y).length≤k):(limbs (x*y)).length≤j+k:=by apply zaN;have h1:=valL_lt (zF x);have h2:=valL_lt (zF y);rw [zC]at h1 h2;have h3:(10:Nat) ^ (limbs x).length≤10 ^ j:=YI (by omega) hx;have h4:(10:Nat) ^ (limbs y).length≤10 ^ k:=YI (by omega) hy;rw [Ycn];exact Ybr (Yo h1 h3) (YbA (Yo h2 h4)) (YcO (by omega))
theorem zks {l:List Nat}{j d:Nat}(hj:j<l.length):valL (l.set j d)+10 ^ j*l.getD j 0=valL l+10 ^ j*d:=by
 have h1:=zbo l j hj;have h2:=zbo (l.set j d) j (by simpa using hj);have e1:(l.set j d).take j=l.take j:=by rw [Ych (Ye _)]
 have e2:(l.set j d).drop (j+1)=l.drop (j+1):=by rw [Yci (by omega)]
 have e3:(l.set j d).getD j 0=d:=by rw [Ya,YbB (by simpa using hj)];rfl
 rw [e1,e2,e3]at h2;rw [h1,h2];generalize (10:Nat) ^ j=p at*;generalize 10*valL (l.drop (j+1))=q at*;rw [YK,YK];omega
theorem zbG {l:List Nat}{i j d:Nat}(h:i≠j):(l.set i d).getD j 0=l.getD j 0:=by rw [Ya,List.getElem?_set_ne h,Ya]
theorem zeZ {l:List Nat}{i d:Nat}(h:okL l)(hd:d<10):okL (l.set i d):=by
 intro x hx;rcases Ya7 hx with h1|h1
 ·exact h x h1
 ·omega
def mulInv(x y:List Nat)(i V0 k:Nat)(l:List Nat)(c:Nat):Prop:=
 l.length=x.length+y.length+1∧okL l∧c<10∧valL l+10 ^ (i+k)*c=V0+10 ^ i*(x.getD i 0*valL (y.take k))∧
 (k≤y.length→l.getD (i+y.length) 0=0)∧(∀ j,i+y.length<j→l.getD j 0=0)∧(k=y.length+1→c=0)
def mulP(x y:List Nat)(i k:Nat)(l:List Nat)(c:Nat):Nat:=l.getD (i+k) 0+c+x.getD i 0*y.getD k 0
theorem mulP_lt {x y:List Nat}{i k:Nat}{l:List Nat}{c:Nat}(hx:okL x)(hy:okL y)(hl:okL l)(hc:c<10):mulP x y i k l c<100∧x.getD i 0*y.getD k 0≤81:=by have h1:=getD_lt hx i;have h2:=getD_lt hy k;have h3:=getD_lt hl (i+k);have h4:x.getD i 0*y.getD k 0≤9*9:=Yak (by omega) (by omega);unfold mulP;generalize x.getD i 0*y.getD k 0=q at*;omega
theorem mul_step {x y:List Nat}{i V0 k:Nat}{l:List Nat}{c:Nat}(hx:okL x)(hy:okL y)(hi:i<x.length)(hk:k≤y.length)(h:mulInv x y i V0 k l c):
 mulInv x y i V0 (k+1) (l.set (i+k) (mulP x y i k l c % 10)) (mulP x y i k l c / 10):=by
 obtain⟨h1,h2,h3,h4,h5,h6,h7⟩:=h
 have hb:=(mulP_lt (i:=i) (k:=k) hx hy h2 h3).1
 have hj:i+k<l.length:=by omega
 refine⟨by simpa using h1,zeZ h2 (YaM _ (by omega)),by omega,?_,fun hk'=>?_,fun j hj'=>?_,fun hk'=>?_⟩
 ·have hs:=zks (d:=mulP x y i k l c % 10) hj
  rw [zaf, ←YN,YP]
  have hp:10 ^ (i+k)=(10:Nat) ^ i*10 ^ k:=Ycn _ _ _
  have hsp:=split_mul (10 ^ (i+k)) (mulP x y i k l c)
  have hexp:10 ^ (i+k)*mulP x y i k l c=10 ^ (i+k)*l.getD (i+k) 0+10 ^ (i+k)*c+10 ^ i*(x.getD i 0*(10 ^ k*y.getD k 0)):=by rw [hp];unfold mulP;rw [YK,YK];congr 1;rw [Y9];congr 1;rw [←Y9, ←Y9,Yay (10 ^ k) (x.getD i 0)]
  rw [YK (x.getD i 0),YK (10 ^ i)]
  generalize 10 ^ i*(x.getD i 0*valL (y.take k))=a1 at*
  generalize 10 ^ i*(x.getD i 0*(10 ^ k*y.getD k 0))=a2 at*
  generalize (10:Nat) ^ (i+k)=p at*
  generalize p*(mulP x y i k l c % 10)=a3 at*
  generalize p*10*(mulP x y i k l c / 10)=a4 at*
  generalize p*mulP x y i k l c=a5 at*
  generalize p*l.getD (i+k) 0=a6 at*
  generalize p*c=a7 at*
  omega
 ·rw [zbG (by omega)];exact h5 (by omega)
 ·rw [zbG (by omega)];exact h6 j hj'
 ·have hke:k=y.length:=by omega
  subst hke
  have e:mulP x y i y.length l c=c:=by unfold mulP;rw [h5 (Ye _),za6 y y.length 0 (Ye _)];simp
  rw [e];omega
def mulOut(x y:List Nat)(i:Nat)(l:List Nat):Prop:=
 l.length=x.length+y.length+1∧okL l∧valL l=valL (x.take i)*valL y∧∀ j,i+y.length≤j→l.getD j 0=0
theorem mul_start(x y:List Nat):mulOut x y 0 (List.replicate (x.length+y.length+1) 0):=by
 have hv:∀ n,valL (List.replicate n 0)=0:=by intro n;induction n with
  |zero=>rfl
  |succ n ih=>rw [Ybs,valL,ih]
 refine⟨by simp,fun d hd=>by have:=Ybe hd;omega,by rw [hv];simp [valL],fun j _=>?_⟩;rw [Ya,Yby];split<;>rfl
theorem mul_row {x y:List Nat}{i:Nat}{l:List Nat}(h:mulOut x y i l):mulInv x y i (valL l) 0 l 0:=by obtain⟨h1,h2,h3,h4⟩:=h;exact⟨h1,h2,by omega,by simp [valL],fun _=>h4 _ (Ye _),fun j hj=>h4 j (by omega),fun h=>by omega⟩
theorem mul_end {x y:List Nat}{i:Nat}{l0 l:List Nat}{c:Nat}(h0:mulOut x y i l0)(h:mulInv x y i (valL l0) (y.length+1) l c):mulOut x y (i+1) l:=by obtain⟨h1,h2,h3,h4,h5,h6,h7⟩:=h;refine⟨h1,h2,?_,fun j hj=>h6 j (by omega)⟩;rw [h7 rfl,YY,Y5,h0.2.2.1,Yj (l:=y) (by omega)]at h4;rw [h4,zaf x i,YV,Y9]
theorem zri {x y:List Nat}{l:List Nat}(h:mulOut x y x.length l):zav l=limbs (valL x*valL y):=by rw [za5 h.2.1,h.2.2.1,YQ]
end Go.Ten
