/- Sums, differences and products block by block; no program in sight. -/
import Derived.Test.YthbimeikbkjnkaaGreatDoorT1
set_option linter.all false
namespace Go.Pl
def zu(F:Nat→Nat→Nat→Nat×Nat)(x y:List Nat):Nat→List Nat×Nat
 |0=>([],0)
 |i+1=>((zu F x y i).1++[(F (x.getD i 0) (y.getD i 0) (zu F x y i).2).1],(F (x.getD i 0) (y.getD i 0) (zu F x y i).2).2)
theorem zaD(F:Nat→Nat→Nat→Nat×Nat)(x y:List Nat)(i:Nat):(zu F x y i).1.length=i:=by
 induction i with
 |zero=>rfl
 |succ i ih=>simp [zu,ih]
def zcY(F:Nat→Nat→Nat→Nat×Nat)(x y:List Nat):List Nat:=zaf (zu F x y (max x.length y.length+1)).1
theorem zX(x:List Nat)(i:Nat):valL (x.take (i+1))=valL (x.take i)+1000000000 ^ i*x.getD i 0:=by
 by_cases h:i<x.length
 ·rw [zbF x i 0 h,zav];have:(x.take i).length=i:=by simp;omega
  rw [this];simp [valL]
 ·rw [List.take_of_length_le (by omega),List.take_of_length_le (by omega),zbd _ _ _ (by omega),Nat.mul_zero,Nat.add_zero]
theorem getD_lt {l:List Nat}(h:okL l)(i:Nat):l.getD i 0<1000000000:=by
 rw [List.getD_eq_getElem?_getD];by_cases hi:i<l.length
 ·rw [List.getElem?_eq_getElem hi];exact h _ (List.getElem_mem _)
 ·rw [List.getElem?_eq_none (by omega)];simp
theorem split_mul(p s:Nat):p*(s % 1000000000)+p*1000000000*(s / 1000000000)=p*s:=by rw [Nat.mul_assoc, ←Nat.mul_add,Nat.mod_add_div]
theorem zcO {l:List Nat}{i d:Nat}(h:l.length=i):valL (l++[d])=valL l+1000000000 ^ i*d:=by rw [zav,h];simp [valL]
def zbc(a b c:Nat):Nat×Nat:=((a+b+c) % 1000000000,(a+b+c) / 1000000000)
def zac(a b c:Nat):Nat×Nat:=((a+1000000000 - b - c) % 1000000000,1 - (a+1000000000 - b - c) / 1000000000)
def zD(k:Nat)(a _b c:Nat):Nat×Nat:=((a*k+c) % 1000000000,(a*k+c) / 1000000000)
theorem zbH {F:Nat→Nat→Nat→Nat×Nat}{x y:List Nat}(hF:∀ a b c,(F a b c).1<1000000000)(i:Nat):okL (zu F x y i).1:=by
 induction i with
 |zero=>intro d hd;cases hd
 |succ i ih=>show okL (_++[_]);rw [okL_append];exact⟨ih,fun d hd=>by simp at hd;subst hd;exact hF _ _ _⟩
theorem ziM(a b c:Nat):(zbc a b c).1<1000000000:=Nat.mod_lt _ (by omega)
theorem zdn(a b c:Nat):(zac a b c).1<1000000000:=Nat.mod_lt _ (by omega)
theorem zed(k a b c:Nat):(zD k a b c).1<1000000000:=Nat.mod_lt _ (by omega)
theorem ziL(x y:List Nat)(i:Nat):valL (zu zbc x y i).1+1000000000 ^ i*(zu zbc x y i).2=valL (x.take i)+valL (y.take i):=by
 induction i with
 |zero=>simp [zu,valL]
 |succ i ih=>rw [zX,zX];show valL (_++[_])+_*(zbc _ _ _).2=_;rw [zcO (zaD zbc x y i)];show _+_*((x.getD i 0+y.getD i 0+(zu zbc x y i).2) % 1000000000)+_*((x.getD i 0+y.getD i 0+(zu zbc x y i).2) / 1000000000)=_;rw [Nat.pow_succ];generalize (1000000000:Nat) ^ i=p at*;have h:=split_mul p (x.getD i 0+y.getD i 0+(zu zbc x y i).2);generalize x.getD i 0=a at*;generalize y.getD i 0=b at*;generalize (zu zbc x y i).2=c at*;rw [Nat.mul_add,Nat.mul_add]at h;omega
theorem zod {x y:List Nat}(hx:okL x)(hy:okL y):zcY zbc x y=limbs (valL x+valL y):=by
 unfold zcY;generalize hN:max x.length y.length=N;rw [zaN (zbH ziM _)];have h:=ziL x y (N+1);rw [List.take_of_length_le (by omega),List.take_of_length_le (by omega)]at h;have h1:=zS hx;have h2:=zS hy;have h3:(1000000000:Nat) ^ x.length≤1000000000 ^ N:=Nat.pow_le_pow_right (by omega) (by omega);have h4:(1000000000:Nat) ^ y.length≤1000000000 ^ N:=Nat.pow_le_pow_right (by omega) (by omega);rw [Nat.pow_succ]at h;generalize (1000000000:Nat) ^ N=p at*;have h5:(zu zbc x y (N+1)).2=0:=by
  rcases Nat.eq_zero_or_pos (zu zbc x y (N+1)).2 with h0|h0
  ·exact h0
  ·have:p*1000000000*1≤p*1000000000*(zu zbc x y (N+1)).2:=Nat.mul_le_mul_left _ h0;omega
 rw [h5,Nat.mul_zero,Nat.add_zero]at h;rw [h]
theorem zb9(x y:List Nat)(i:Nat):(zu zac x y i).2≤1:=by
 cases i with
 |zero=>simp [zu]
 |succ i=>show (zac _ _ _).2≤1;unfold zac;omega
theorem zgi(x y:List Nat)(hx:okL x)(hy:okL y)(i:Nat):valL (zu zac x y i).1+valL (y.take i)=valL (x.take i)+1000000000 ^ i*(zu zac x y i).2:=by
 induction i with
 |zero=>simp [zu,valL]
 |succ i ih=>
  rw [zX,zX];have hc:=zb9 x y i;have ha:=getD_lt hx i;have hb:=getD_lt hy i;show valL (_++[_])+_=_+_*(zac _ _ _).2;rw [zcO (zaD zac x y i)];show _+_*((x.getD i 0+1000000000 - y.getD i 0 - (zu zac x y i).2) % 1000000000)+_=_+_*(1 - (x.getD i 0+1000000000 - y.getD i 0 - (zu zac x y i).2) / 1000000000);rw [Nat.pow_succ];generalize (1000000000:Nat) ^ i=p at*;generalize x.getD i 0=a at*;generalize y.getD i 0=b at*;generalize (zu zac x y i).2=c at*;by_cases h:a+1000000000 - b - c<1000000000
  ·have e1:(a+1000000000 - b - c) % 1000000000=a+1000000000 - b - c:=Nat.mod_eq_of_lt h;have e2:(a+1000000000 - b - c) / 1000000000=0:=Nat.div_eq_of_lt h;rw [e1,e2];have h2:p*(a+1000000000 - b - c)+p*b+p*c=p*a+p*1000000000:=by rw [←Nat.mul_add, ←Nat.mul_add, ←Nat.mul_add];congr 1;omega
   simp only [Nat.sub_zero,Nat.mul_one];omega
  ·have e1:(a+1000000000 - b - c) % 1000000000=a - b - c:=by omega
   have e2:(a+1000000000 - b - c) / 1000000000=1:=by omega
   rw [e1,e2];have h2:p*(a - b - c)+p*b+p*c=p*a:=by rw [←Nat.mul_add, ←Nat.mul_add];congr 1;omega
   simp only [Nat.sub_self,Nat.mul_zero];omega
theorem zkH {x y:List Nat}(hx:okL x)(hy:okL y)(hle:valL y≤valL x):zcY zac x y=limbs (valL x - valL y):=by
 unfold zcY;generalize hN:max x.length y.length=N;rw [zaN (zbH zdn _)];have h:=zgi x y hx hy (N+1);rw [List.take_of_length_le (by omega),List.take_of_length_le (by omega)]at h;have h6:=zS (zbH (x:=x) (y:=y) zdn (N+1));rw [zaD]at h6;have h7:=zb9 x y (N+1);generalize (1000000000:Nat) ^ (N+1)=p at*;have h5:(zu zac x y (N+1)).2=0:=by
  rcases Nat.eq_zero_or_pos (zu zac x y (N+1)).2 with h0|h0
  ·exact h0
  ·have:(zu zac x y (N+1)).2=1:=by omega
   rw [this,Nat.mul_one]at h;omega
 rw [h5,Nat.mul_zero,Nat.add_zero]at h;congr 1;omega
theorem zf0 {k:Nat}(hk:k<1000000000)(x:List Nat)(hx:okL x)(y:List Nat)(i:Nat):(zu (zD k) x y i).2<1000000000:=by
 induction i with
 |zero=>simp [zu]
 |succ i ih=>have ha:=getD_lt hx i;have:x.getD i 0*k≤999999999*999999999:=Nat.mul_le_mul (by omega) (by omega);show (x.getD i 0*k+(zu (zD k) x y i).2) / 1000000000<1000000000;generalize x.getD i 0*k=q at*;omega
theorem zfZ(k:Nat)(x y:List Nat)(i:Nat):valL (zu (zD k) x y i).1+1000000000 ^ i*(zu (zD k) x y i).2=valL (x.take i)*k:=by
 induction i with
 |zero=>simp [zu,valL]
 |succ i ih=>rw [zX];show valL ((zu (zD k) x y i).1++[(zD k (x.getD i 0) (y.getD i 0) (zu (zD k) x y i).2).1])+_*(zD k (x.getD i 0) (y.getD i 0) (zu (zD k) x y i).2).2=_;rw [zcO (zaD (zD k) x y i)];show _+_*((x.getD i 0*k+(zu (zD k) x y i).2) % 1000000000)+_*((x.getD i 0*k+(zu (zD k) x y i).2) / 1000000000)=_;rw [Nat.pow_succ,Nat.add_mul];generalize (1000000000:Nat) ^ i=p at*;have h:=split_mul p (x.getD i 0*k+(zu (zD k) x y i).2);rw [Nat.mul_add, ←Nat.mul_assoc]at h;generalize p*x.getD i 0*k=q at*;omega
theorem zfY {k:Nat}{x:List Nat}(hk:k<1000000000)(hx:okL x):zcY (zD k) x []=limbs (valL x*k):=by
 unfold zcY;generalize hN:max x.length ([]:List Nat).length=N;have hN':x.length≤N:=by omega
 rw [zaN (zbH (zed k) _)];have h:=zfZ k x [] (N+1);rw [List.take_of_length_le (by omega)]at h;have h1:=zS hx;have h3:(1000000000:Nat) ^ x.length≤1000000000 ^ N:=Nat.pow_le_pow_right (by omega) (by omega);have h5:(zu (zD k) x [] (N+1)).2=0:=by
  rcases Nat.eq_zero_or_pos (zu (zD k) x [] (N+1)).2 with h0|h0
  ·exact h0
  ·exfalso;have h8:valL x*k<1000000000 ^ (N+1):=by rw [Nat.pow_succ];exact Nat.lt_of_lt_of_le (Nat.mul_lt_mul_of_lt_of_le (Nat.lt_of_lt_of_le h1 h3) (Nat.le_of_lt hk) (by omega)) (Nat.le_refl _)
   have h9:1000000000 ^ (N+1)*1≤1000000000 ^ (N+1)*(zu (zD k) x [] (N+1)).2:=Nat.mul_le_mul_left _ h0;generalize (1000000000:Nat) ^ (N+1)=p at*;omega
 rw [h5,Nat.mul_zero,Nat.add_zero]at h;rw [h]
theorem zaI {x y:Nat}(h:(limbs x).length<(limbs y).length):x<y:=by
 rcases Nat.lt_or_ge x y with h1|h1
 ·exact h1
 ·have h2:=zS (zC x);rw [zB]at h2;have:=zaC (Nat.lt_of_le_of_lt h1 h2);omega
theorem za6(l:List Nat)(k:Nat)(hk:k<l.length):valL l=valL (l.take k)+1000000000 ^ k*(l.getD k 0+1000000000*valL (l.drop (k+1))):=by
 have e:l=l.take k++(l.getD k 0::l.drop (k+1)):=by
  conv=>lhs;rw [←List.take_append_drop k l]
  congr 1;rw [List.drop_eq_getElem_cons hk,List.getD_eq_getElem?_getD,List.getElem?_eq_getElem hk];rfl
 have h:(l.take k).length=k:=by simp;omega
 conv=>lhs;rw [e]
 rw [zav,h,valL]
theorem zeI {l r:List Nat}{k:Nat}(ho:okL l)(hlen:l.length=r.length)(hk:k<l.length)(hd:∀ j,k<j→l.getD j 0=r.getD j 0)(h:l.getD k 0<r.getD k 0):valL l<valL r:=by
 have e:l.drop (k+1)=r.drop (k+1):=by
  apply List.ext_getElem?;intro i;rw [List.getElem?_drop,List.getElem?_drop];have:=hd (k+1+i) (by omega);rw [List.getD_eq_getElem?_getD,List.getD_eq_getElem?_getD]at this;by_cases hi:k+1+i<l.length
  ·rw [List.getElem?_eq_getElem hi,List.getElem?_eq_getElem (by omega)]at this ⊢;simpa using this
  ·rw [List.getElem?_eq_none (by omega),List.getElem?_eq_none (by omega)]
 rw [za6 l k hk,za6 r k (by omega),e];have h1:valL (l.take k)<1000000000 ^ k:=by
  have:=zS (l:=l.take k) (fun d hd=>ho d (List.mem_of_mem_take hd));have h2:(l.take k).length=k:=by simp;omega
  rwa [h2]at this
 generalize (1000000000:Nat) ^ k=p at*;generalize valL (r.drop (k+1))=q at*;have h3:p*(l.getD k 0+1000000000*q)+p≤p*(r.getD k 0+1000000000*q):=by rw [←Nat.mul_succ];exact Nat.mul_le_mul_left _ (by omega)
 omega
theorem zld {l r:List Nat}(hlen:l.length=r.length)(hd:∀ j,l.getD j 0=r.getD j 0):l=r:=by
 apply List.ext_getElem?;intro i;have:=hd i;rw [List.getD_eq_getElem?_getD,List.getD_eq_getElem?_getD]at this;by_cases hi:i<l.length
 ·rw [List.getElem?_eq_getElem hi,List.getElem?_eq_getElem (by omega)]at this ⊢;simpa using this
 ·rw [List.getElem?_eq_none (by omega),List.getElem?_eq_none (by omega)]
theorem zoo {n k:Nat}(h:n<10 ^ k):(limbs n).length≤k:=zaC (Nat.lt_of_lt_of_le h (Nat.pow_le_pow_left (by omega) k))
theorem zbp {a:List UInt8}{k:Nat}(hd:a.all zci=true)(hl:a.length≤k):(limbs (valD a)).length≤k:=
 zoo (Nat.lt_of_lt_of_le (zie hd) (Nat.pow_le_pow_right (by omega) hl))
theorem zkN {x y k:Nat}(hx:(limbs x).length≤k)(hy:(limbs y).length≤k):(limbs (x+y)).length≤k+1:=by apply zaC;have h1:=zS (zC x);have h2:=zS (zC y);rw [zB]at h1 h2;have h3:(1000000000:Nat) ^ (limbs x).length≤1000000000 ^ k:=Nat.pow_le_pow_right (by omega) hx;have h4:(1000000000:Nat) ^ (limbs y).length≤1000000000 ^ k:=Nat.pow_le_pow_right (by omega) hy;rw [Nat.pow_succ];generalize (1000000000:Nat) ^ k=p at*;omega
theorem zkL {x y k:Nat}(hx:(limbs x).length≤k):(limbs (x - y)).length≤k:=by apply zaC;have h1:=zS (zC x);rw [zB]at h1;have h3:(1000000000:Nat) ^ (limbs x).length≤1000000000 ^ k:=Nat.pow_le_pow_right (by omega) hx;omega
theorem zkM {x y j k:Nat}(hx:(limbs x).length≤j)(hy:(limbs y).length≤k):(limbs (x*y)).length≤j+k:=by apply zaC;have h1:=zS (zC x);have h2:=zS (zC y);rw [zB]at h1 h2;have h3:(1000000000:Nat) ^ (limbs x).length≤1000000000 ^ j:=Nat.pow_le_pow_right (by omega) hx;have h4:(1000000000:Nat) ^ (limbs y).length≤1000000000 ^ k:=Nat.pow_le_pow_right (by omega) hy;rw [Nat.pow_add];exact Nat.mul_lt_mul_of_lt_of_le (Nat.lt_of_lt_of_le h1 h3) (Nat.le_of_lt (Nat.lt_of_lt_of_le h2 h4)) (Nat.pow_pos (by omega))
end Go.Pl

namespace Go.Pl
theorem zis {l:List Nat}{j d:Nat}(hj:j<l.length):valL (l.set j d)+1000000000 ^ j*l.getD j 0=valL l+1000000000 ^ j*d:=by
 have h1:=za6 l j hj;have h2:=za6 (l.set j d) j (by simpa using hj);have e1:(l.set j d).take j=l.take j:=by rw [List.take_set_of_le (Nat.le_refl _)]
 have e2:(l.set j d).drop (j+1)=l.drop (j+1):=by rw [List.drop_set_of_lt (by omega)]
 have e3:(l.set j d).getD j 0=d:=by rw [List.getD_eq_getElem?_getD,List.getElem?_set_self (by simpa using hj)];rfl
 rw [e1,e2,e3]at h2;rw [h1,h2];generalize (1000000000:Nat) ^ j=p at*;generalize 1000000000*valL (l.drop (j+1))=q at*;rw [Nat.mul_add,Nat.mul_add];omega
theorem zbj {l:List Nat}{i j d:Nat}(h:i≠j):(l.set i d).getD j 0=l.getD j 0:=by rw [List.getD_eq_getElem?_getD,List.getElem?_set_ne h,List.getD_eq_getElem?_getD]
theorem zdT {l:List Nat}{i d:Nat}(h:okL l)(hd:d<1000000000):okL (l.set i d):=by
 intro x hx;rcases List.mem_or_eq_of_mem_set hx with h1|h1
 ·exact h x h1
 ·omega
def zdL(x y:List Nat)(i V0 k:Nat)(l:List Nat)(c:Nat):Prop:=
 l.length=x.length+y.length+1∧okL l∧c<1000000000∧valL l+1000000000 ^ (i+k)*c=V0+1000000000 ^ i*(x.getD i 0*valL (y.take k))∧
 (k≤y.length→l.getD (i+y.length) 0=0)∧(∀ j,i+y.length<j→l.getD j 0=0)∧(k=y.length+1→c=0)
def mulP(x y:List Nat)(i k:Nat)(l:List Nat)(c:Nat):Nat:=l.getD (i+k) 0+c+x.getD i 0*y.getD k 0
theorem zjb {x y:List Nat}{i k:Nat}{l:List Nat}{c:Nat}(hx:okL x)(hy:okL y)(hl:okL l)(hc:c<1000000000):mulP x y i k l c<1000000000000000000∧x.getD i 0*y.getD k 0≤999999998000000001:=by have h1:=getD_lt hx i;have h2:=getD_lt hy k;have h3:=getD_lt hl (i+k);have h4:x.getD i 0*y.getD k 0≤999999999*999999999:=Nat.mul_le_mul (by omega) (by omega);unfold mulP;generalize x.getD i 0*y.getD k 0=q at*;omega
theorem zoh {x y:List Nat}{i V0 k:Nat}{l:List Nat}{c:Nat}(hx:okL x)(hy:okL y)(hi:i<x.length)(hk:k≤y.length)(h:zdL x y i V0 k l c):
 zdL x y i V0 (k+1) (l.set (i+k) (mulP x y i k l c % 1000000000)) (mulP x y i k l c / 1000000000):=by
 obtain⟨h1,h2,h3,h4,h5,h6,h7⟩:=h
 have hb:=(zjb (i:=i) (k:=k) hx hy h2 h3).1
 have hj:i+k<l.length:=by omega
 refine⟨by simpa using h1,zdT h2 (Nat.mod_lt _ (by omega)),by omega,?_,fun hk'=>?_,fun j hj'=>?_,fun hk'=>?_⟩
 ·have hs:=zis (d:=mulP x y i k l c % 1000000000) hj
  rw [zX, ←Nat.add_assoc,Nat.pow_succ]
  have hp:1000000000 ^ (i+k)=(1000000000:Nat) ^ i*1000000000 ^ k:=Nat.pow_add _ _ _
  have hsp:=split_mul (1000000000 ^ (i+k)) (mulP x y i k l c)
  have hexp:1000000000 ^ (i+k)*mulP x y i k l c=1000000000 ^ (i+k)*l.getD (i+k) 0+1000000000 ^ (i+k)*c+1000000000 ^ i*(x.getD i 0*(1000000000 ^ k*y.getD k 0)):=by rw [hp];unfold mulP;rw [Nat.mul_add,Nat.mul_add];congr 1;rw [Nat.mul_assoc];congr 1;rw [←Nat.mul_assoc, ←Nat.mul_assoc,Nat.mul_comm (1000000000 ^ k) (x.getD i 0)]
  rw [Nat.mul_add (x.getD i 0),Nat.mul_add (1000000000 ^ i)]
  generalize 1000000000 ^ i*(x.getD i 0*valL (y.take k))=a1 at*
  generalize 1000000000 ^ i*(x.getD i 0*(1000000000 ^ k*y.getD k 0))=a2 at*
  generalize (1000000000:Nat) ^ (i+k)=p at*
  generalize p*(mulP x y i k l c % 1000000000)=a3 at*
  generalize p*1000000000*(mulP x y i k l c / 1000000000)=a4 at*
  generalize p*mulP x y i k l c=a5 at*
  generalize p*l.getD (i+k) 0=a6 at*
  generalize p*c=a7 at*
  omega
 ·rw [zbj (by omega)];exact h5 (by omega)
 ·rw [zbj (by omega)];exact h6 j hj'
 ·have hke:k=y.length:=by omega
  subst hke
  have e:mulP x y i y.length l c=c:=by unfold mulP;rw [h5 (Nat.le_refl _),zbd y y.length 0 (Nat.le_refl _)];simp
  rw [e];omega
def zcC(x y:List Nat)(i:Nat)(l:List Nat):Prop:=
 l.length=x.length+y.length+1∧okL l∧valL l=valL (x.take i)*valL y∧∀ j,i+y.length≤j→l.getD j 0=0
theorem zkG(x y:List Nat):zcC x y 0 (List.replicate (x.length+y.length+1) 0):=by
 have hv:∀ n,valL (List.replicate n 0)=0:=by intro n;induction n with
  |zero=>rfl
  |succ n ih=>rw [List.replicate_succ,valL,ih]
 refine⟨by simp,fun d hd=>by have:=List.eq_of_mem_replicate hd;omega,by rw [hv];simp [valL],fun j _=>?_⟩;rw [List.getD_eq_getElem?_getD,List.getElem?_replicate];split<;>rfl
theorem zt0 {x y:List Nat}{i:Nat}{l:List Nat}(h:zcC x y i l):zdL x y i (valL l) 0 l 0:=by obtain⟨h1,h2,h3,h4⟩:=h;exact⟨h1,h2,by omega,by simp [valL],fun _=>h4 _ (Nat.le_refl _),fun j hj=>h4 j (by omega),fun h=>by omega⟩
theorem zt1 {x y:List Nat}{i:Nat}{l0 l:List Nat}{c:Nat}(h0:zcC x y i l0)(h:zdL x y i (valL l0) (y.length+1) l c):zcC x y (i+1) l:=by obtain⟨h1,h2,h3,h4,h5,h6,h7⟩:=h;refine⟨h1,h2,?_,fun j hj=>h6 j (by omega)⟩;rw [h7 rfl,Nat.mul_zero,Nat.add_zero,h0.2.2.1,List.take_of_length_le (l:=y) (by omega)]at h4;rw [h4,zX x i,Nat.add_mul,Nat.mul_assoc]
theorem zoi {x y:List Nat}{l:List Nat}(h:zcC x y x.length l):zaf l=limbs (valL x*valL y):=by rw [zaN h.2.1,h.2.2.1,List.take_length]
end Go.Pl
