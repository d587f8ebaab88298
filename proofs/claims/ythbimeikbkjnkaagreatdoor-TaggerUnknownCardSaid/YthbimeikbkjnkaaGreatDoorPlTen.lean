/- Lists of digits, base ten: the laws of blocks, with ten in place of their base (laid by program from PlNat, PlEach, PlMul). -/
import Derived.Test.YthbimeikbkjnkaaGreatDoorPlEach
import Derived.Test.YthbimeikbkjnkaaGreatDoorS0Types
import Derived.Test.YthbimeikbkjnkaaGreatDoorAbWalk
import Derived.Test.YthbimeikbkjnkaaGreatDoorT1
set_option linter.all false
namespace Go.Ten
def valL:List Nat→Nat
 |[]=>0
 |d::l=>d+10*valL l
def okL(l:List Nat):Prop:=∀ d∈l,d<10
def zaf:List Nat→List Nat
 |[]=>[]
 |d::l=>if d=0∧zaf l=[]then []else d::zaf l
def zbN:Nat→Nat→List Nat
 |0,_=>[]
 |f+1,n=>if n=0 then []else n % 10::zbN f (n / 10)
def limbs(n:Nat):List Nat:=zbN n n
theorem zdo:∀(f g n:Nat),n≤f→n≤g→zbN f n=zbN g n
 |0,g,n,h,_=>by
  have:n=0:=by omega
  subst this;cases g<;>simp [zbN]
 |f+1,0,n,_,h=>by
  have:n=0:=by omega
  subst this;simp [zbN]
 |f+1,g+1,n,h,h'=>by
  simp only [zbN];split
  ·rfl
  ·rw [zdo f g (n / 10) (by omega) (by omega)]
theorem zaA:limbs 0=[]:=rfl
theorem zaH {n:Nat}(h:n≠0):limbs n=n % 10::limbs (n / 10):=by unfold limbs;obtain⟨m,rfl⟩:∃ m,n=m+1:=⟨n - 1,by omega⟩;rw [zbN,if_neg h,zdo m ((m+1) / 10) ((m+1) / 10) (by omega) (Nat.le_refl _)]
theorem limbs_nil {n:Nat}:limbs n=[]↔n=0:=by
 constructor
 ·intro h;by_cases h0:n=0
  ·exact h0
  ·rw [zaH h0]at h;cases h
 ·rintro rfl;rfl
theorem zB(n:Nat):valL (limbs n)=n:=by
 induction n using Nat.strongRecOn with
 |_ n ih=>
  by_cases h:n=0
  ·subst h;rfl
  ·rw [zaH h,valL,ih (n / 10) (by omega)];omega
theorem zC(n:Nat):okL (limbs n):=by
 induction n using Nat.strongRecOn with
 |_ n ih=>
  by_cases h:n=0
  ·subst h;intro d hd;cases hd
  ·rw [zaH h];intro d hd;rcases List.mem_cons.1 hd with rfl|hd
   ·omega
   ·exact ih (n / 10) (by omega) d hd
theorem okL_cons {d:Nat}{l:List Nat}:okL (d::l)↔d<10∧okL l:=by simp [okL]
theorem okL_append {l r:List Nat}:okL (l++r)↔okL l∧okL r:=by simp only [okL,List.mem_append];exact⟨fun h=>⟨fun d hd=>h d (.inl hd),fun d hd=>h d (.inr hd)⟩,fun h d hd=>hd.elim (h.1 d) (h.2 d)⟩
theorem zaN {l:List Nat}(h:okL l):zaf l=limbs (valL l):=by
 induction l with
 |nil=>rfl
 |cons d l ih=>
  rw [okL_cons]at h;rw [zaf,ih h.2,valL];have hd:=h.1;by_cases h0:d+10*valL l=0
  ·rw [h0,zaA,if_pos ⟨by omega,limbs_nil.2 (by omega)⟩]
  ·rw [zaH h0,if_neg (by rw [limbs_nil];omega)];congr 1
   ·omega
   ·congr 1;omega
theorem zav(l r:List Nat):valL (l++r)=valL l+10 ^ l.length*valL r:=by
 induction l with
 |nil=>simp [valL]
 |cons d l ih=>simp only [List.cons_append,valL,ih,List.length_cons,Nat.pow_succ,Nat.mul_add, ←Nat.mul_assoc];rw [Nat.mul_comm (10 ^ l.length) 10];omega
theorem zS {l:List Nat}(h:okL l):valL l<10 ^ l.length:=by
 induction l with
 |nil=>simp [valL]
 |cons d l ih=>
  rw [okL_cons]at h;have:=ih h.2;simp only [valL,List.length_cons,Nat.pow_succ];have h1:=h.1;have:10*valL l+10≤10*10 ^ l.length:=by rw [←Nat.mul_succ];exact Nat.mul_le_mul_left _ this
  omega
theorem zcw {l:List Nat}{n:Nat}(hn:n≤l.length)(h:∀ j,n≤j→l.getD j 0=0)(h2:n=0∨l.getD (n - 1) 0≠0):zaf l=l.take n:=by
 induction l generalizing n with
 |nil=>simp [zaf]
 |cons d l ih=>
  cases n with
  |zero=>
   have hd:=h 0 (Nat.le_refl _);have hl:zaf l=[]:=by rw [ih (n:=0) (Nat.zero_le _) (fun j _=>h (j+1) (Nat.zero_le _)) (.inl rfl)];simp
   simp at hd;simp [zaf,hd,hl]
  |succ n=>
   have hl:=ih (n:=n) (by simpa using hn) (fun j hj=>by have:=h (j+1) (by omega);simpa using this) (by
    cases n with
    |zero=>exact .inl rfl
    |succ n=>right;rcases h2 with h2|h2;omega;simpa using h2)
   rw [zaf,hl,List.take_succ_cons,if_neg];rintro⟨hd,hnil⟩;rcases h2 with h2|h2
   ·omega
   ·cases n with
    |zero=>simp at h2;exact h2 hd
    |succ n=>
     have:l.length=0:=by have:=congrArg List.length hnil;simp at this;simp [this]
     simp at hn;omega
theorem zbX {n:Nat}(h:n≠0):(limbs n).getD ((limbs n).length - 1) 0≠0:=by
 induction n using Nat.strongRecOn with
 |_ n ih=>
  rw [zaH h];by_cases h1:n / 10=0
  ·rw [h1,zaA];simp;omega
  ·have:=ih (n / 10) (by omega) h1;have hne:limbs (n / 10)≠[]:=by rw [ne_eq,limbs_nil];exact h1
   obtain⟨d,r,hdr⟩:=List.exists_cons_of_ne_nil hne;rw [hdr]at this ⊢;simpa using this
theorem zaC {n k:Nat}(h:n<10 ^ k):(limbs n).length≤k:=by
 induction k generalizing n with
 |zero=>have:n=0:=by simpa using h
        subst this;simp [zaA]
 |succ k ih=>
  by_cases h0:n=0
  ·subst h0;simp [zaA]
  ·rw [zaH h0,List.length_cons];have:n / 10<10 ^ k:=by rw [Nat.div_lt_iff_lt_mul (by omega)];rw [Nat.pow_succ]at h;exact h
   have:=ih this;omega
theorem getD_drop {α:Type}(l:List α)(a b:Nat)(d:α):(l.drop a).getD b d=l.getD (a+b) d:=by simp [List.getD_eq_getElem?_getD]
theorem getD_take {α:Type}(l:List α)(n i:Nat)(d:α)(h:i<n):(l.take n).getD i d=l.getD i d:=by simp [List.getD_eq_getElem?_getD,h]
theorem zbd {α:Type}(l:List α)(i:Nat)(d:α)(h:l.length≤i):l.getD i d=d:=by simp [List.getD_eq_getElem?_getD,h]
theorem zbF {α:Type}(l:List α)(n:Nat)(d:α)(h:n<l.length):l.take (n+1)=l.take n++[l.getD n d]:=by rw [List.take_succ_eq_append_getElem h,List.getD_eq_getElem?_getD,List.getElem?_eq_getElem h];rfl
def zu(F:Nat→Nat→Nat→Nat×Nat)(x y:List Nat):Nat→List Nat×Nat
 |0=>([],0)
 |i+1=>((zu F x y i).1++[(F (x.getD i 0) (y.getD i 0) (zu F x y i).2).1],(F (x.getD i 0) (y.getD i 0) (zu F x y i).2).2)
theorem zaD(F:Nat→Nat→Nat→Nat×Nat)(x y:List Nat)(i:Nat):(zu F x y i).1.length=i:=by
 induction i with
 |zero=>rfl
 |succ i ih=>simp [zu,ih]
def zcY(F:Nat→Nat→Nat→Nat×Nat)(x y:List Nat):List Nat:=zaf (zu F x y (max x.length y.length+1)).1
theorem zX(x:List Nat)(i:Nat):valL (x.take (i+1))=valL (x.take i)+10 ^ i*x.getD i 0:=by
 by_cases h:i<x.length
 ·rw [zbF x i 0 h,zav];have:(x.take i).length=i:=by simp;omega
  rw [this];simp [valL]
 ·rw [List.take_of_length_le (by omega),List.take_of_length_le (by omega),zbd _ _ _ (by omega),Nat.mul_zero,Nat.add_zero]
theorem getD_lt {l:List Nat}(h:okL l)(i:Nat):l.getD i 0<10:=by
 rw [List.getD_eq_getElem?_getD];by_cases hi:i<l.length
 ·rw [List.getElem?_eq_getElem hi];exact h _ (List.getElem_mem _)
 ·rw [List.getElem?_eq_none (by omega)];simp
theorem split_mul(p s:Nat):p*(s % 10)+p*10*(s / 10)=p*s:=by rw [Nat.mul_assoc, ←Nat.mul_add,Nat.mod_add_div]
theorem zcO {l:List Nat}{i d:Nat}(h:l.length=i):valL (l++[d])=valL l+10 ^ i*d:=by rw [zav,h];simp [valL]
def zbc(a b c:Nat):Nat×Nat:=((a+b+c) % 10,(a+b+c) / 10)
def zac(a b c:Nat):Nat×Nat:=((a+10 - b - c) % 10,1 - (a+10 - b - c) / 10)
def zD(k:Nat)(a _b c:Nat):Nat×Nat:=((a*k+c) % 10,(a*k+c) / 10)
theorem zbH {F:Nat→Nat→Nat→Nat×Nat}{x y:List Nat}(hF:∀ a b c,(F a b c).1<10)(i:Nat):okL (zu F x y i).1:=by
 induction i with
 |zero=>intro d hd;cases hd
 |succ i ih=>show okL (_++[_]);rw [okL_append];exact⟨ih,fun d hd=>by simp at hd;subst hd;exact hF _ _ _⟩
theorem ziM(a b c:Nat):(zbc a b c).1<10:=Nat.mod_lt _ (by omega)
theorem zdn(a b c:Nat):(zac a b c).1<10:=Nat.mod_lt _ (by omega)
theorem zed(k a b c:Nat):(zD k a b c).1<10:=Nat.mod_lt _ (by omega)
theorem ziL(x y:List Nat)(i:Nat):valL (zu zbc x y i).1+10 ^ i*(zu zbc x y i).2=valL (x.take i)+valL (y.take i):=by
 induction i with
 |zero=>simp [zu,valL]
 |succ i ih=>rw [zX,zX];show valL (_++[_])+_*(zbc _ _ _).2=_;rw [zcO (zaD zbc x y i)];show _+_*((x.getD i 0+y.getD i 0+(zu zbc x y i).2) % 10)+_*((x.getD i 0+y.getD i 0+(zu zbc x y i).2) / 10)=_;rw [Nat.pow_succ];generalize (10:Nat) ^ i=p at*;have h:=split_mul p (x.getD i 0+y.getD i 0+(zu zbc x y i).2);generalize x.getD i 0=a at*;generalize y.getD i 0=b at*;generalize (zu zbc x y i).2=c at*;rw [Nat.mul_add,Nat.mul_add]at h;omega
theorem zod {x y:List Nat}(hx:okL x)(hy:okL y):zcY zbc x y=limbs (valL x+valL y):=by
 unfold zcY;generalize hN:max x.length y.length=N;rw [zaN (zbH ziM _)];have h:=ziL x y (N+1);rw [List.take_of_length_le (by omega),List.take_of_length_le (by omega)]at h;have h1:=zS hx;have h2:=zS hy;have h3:(10:Nat) ^ x.length≤10 ^ N:=Nat.pow_le_pow_right (by omega) (by omega);have h4:(10:Nat) ^ y.length≤10 ^ N:=Nat.pow_le_pow_right (by omega) (by omega);rw [Nat.pow_succ]at h;generalize (10:Nat) ^ N=p at*;have h5:(zu zbc x y (N+1)).2=0:=by
  rcases Nat.eq_zero_or_pos (zu zbc x y (N+1)).2 with h0|h0
  ·exact h0
  ·have:p*10*1≤p*10*(zu zbc x y (N+1)).2:=Nat.mul_le_mul_left _ h0;omega
 rw [h5,Nat.mul_zero,Nat.add_zero]at h;rw [h]
theorem zb9(x y:List Nat)(i:Nat):(zu zac x y i).2≤1:=by
 cases i with
 |zero=>simp [zu]
 |succ i=>show (zac _ _ _).2≤1;unfold zac;omega
theorem zgi(x y:List Nat)(hx:okL x)(hy:okL y)(i:Nat):valL (zu zac x y i).1+valL (y.take i)=valL (x.take i)+10 ^ i*(zu zac x y i).2:=by
 induction i with
 |zero=>simp [zu,valL]
 |succ i ih=>
  rw [zX,zX];have hc:=zb9 x y i;have ha:=getD_lt hx i;have hb:=getD_lt hy i;show valL (_++[_])+_=_+_*(zac _ _ _).2;rw [zcO (zaD zac x y i)];show _+_*((x.getD i 0+10 - y.getD i 0 - (zu zac x y i).2) % 10)+_=_+_*(1 - (x.getD i 0+10 - y.getD i 0 - (zu zac x y i).2) / 10);rw [Nat.pow_succ];generalize (10:Nat) ^ i=p at*;generalize x.getD i 0=a at*;generalize y.getD i 0=b at*;generalize (zu zac x y i).2=c at*;by_cases h:a+10 - b - c<10
  ·have e1:(a+10 - b - c) % 10=a+10 - b - c:=Nat.mod_eq_of_lt h;have e2:(a+10 - b - c) / 10=0:=Nat.div_eq_of_lt h;rw [e1,e2];have h2:p*(a+10 - b - c)+p*b+p*c=p*a+p*10:=by rw [←Nat.mul_add, ←Nat.mul_add, ←Nat.mul_add];congr 1;omega
   simp only [Nat.sub_zero,Nat.mul_one];omega
  ·have e1:(a+10 - b - c) % 10=a - b - c:=by omega
   have e2:(a+10 - b - c) / 10=1:=by omega
   rw [e1,e2];have h2:p*(a - b - c)+p*b+p*c=p*a:=by rw [←Nat.mul_add, ←Nat.mul_add];congr 1;omega
   simp only [Nat.sub_self,Nat.mul_zero];omega
theorem zkH {x y:List Nat}(hx:okL x)(hy:okL y)(hle:valL y≤valL x):zcY zac x y=limbs (valL x - valL y):=by
 unfold zcY;generalize hN:max x.length y.length=N;rw [zaN (zbH zdn _)];have h:=zgi x y hx hy (N+1);rw [List.take_of_length_le (by omega),List.take_of_length_le (by omega)]at h;have h6:=zS (zbH (x:=x) (y:=y) zdn (N+1));rw [zaD]at h6;have h7:=zb9 x y (N+1);generalize (10:Nat) ^ (N+1)=p at*;have h5:(zu zac x y (N+1)).2=0:=by
  rcases Nat.eq_zero_or_pos (zu zac x y (N+1)).2 with h0|h0
  ·exact h0
  ·have:(zu zac x y (N+1)).2=1:=by omega
   rw [this,Nat.mul_one]at h;omega
 rw [h5,Nat.mul_zero,Nat.add_zero]at h;congr 1;omega
theorem zf0 {k:Nat}(hk:k<10)(x:List Nat)(hx:okL x)(y:List Nat)(i:Nat):(zu (zD k) x y i).2<10:=by
 induction i with
 |zero=>simp [zu]
 |succ i ih=>have ha:=getD_lt hx i;have:x.getD i 0*k≤9*9:=Nat.mul_le_mul (by omega) (by omega);show (x.getD i 0*k+(zu (zD k) x y i).2) / 10<10;generalize x.getD i 0*k=q at*;omega
theorem zfZ(k:Nat)(x y:List Nat)(i:Nat):valL (zu (zD k) x y i).1+10 ^ i*(zu (zD k) x y i).2=valL (x.take i)*k:=by
 induction i with
 |zero=>simp [zu,valL]
 |succ i ih=>rw [zX];show valL ((zu (zD k) x y i).1++[(zD k (x.getD i 0) (y.getD i 0) (zu (zD k) x y i).2).1])+_*(zD k (x.getD i 0) (y.getD i 0) (zu (zD k) x y i).2).2=_;rw [zcO (zaD (zD k) x y i)];show _+_*((x.getD i 0*k+(zu (zD k) x y i).2) % 10)+_*((x.getD i 0*k+(zu (zD k) x y i).2) / 10)=_;rw [Nat.pow_succ,Nat.add_mul];generalize (10:Nat) ^ i=p at*;have h:=split_mul p (x.getD i 0*k+(zu (zD k) x y i).2);rw [Nat.mul_add, ←Nat.mul_assoc]at h;generalize p*x.getD i 0*k=q at*;omega
theorem zfY {k:Nat}{x:List Nat}(hk:k<10)(hx:okL x):zcY (zD k) x []=limbs (valL x*k):=by
 unfold zcY;generalize hN:max x.length ([]:List Nat).length=N;have hN':x.length≤N:=by omega
 rw [zaN (zbH (zed k) _)];have h:=zfZ k x [] (N+1);rw [List.take_of_length_le (by omega)]at h;have h1:=zS hx;have h3:(10:Nat) ^ x.length≤10 ^ N:=Nat.pow_le_pow_right (by omega) (by omega);have h5:(zu (zD k) x [] (N+1)).2=0:=by
  rcases Nat.eq_zero_or_pos (zu (zD k) x [] (N+1)).2 with h0|h0
  ·exact h0
  ·exfalso;have h8:valL x*k<10 ^ (N+1):=by rw [Nat.pow_succ];exact Nat.lt_of_lt_of_le (Nat.mul_lt_mul_of_lt_of_le (Nat.lt_of_lt_of_le h1 h3) (Nat.le_of_lt hk) (by omega)) (Nat.le_refl _)
   have h9:10 ^ (N+1)*1≤10 ^ (N+1)*(zu (zD k) x [] (N+1)).2:=Nat.mul_le_mul_left _ h0;generalize (10:Nat) ^ (N+1)=p at*;omega
 rw [h5,Nat.mul_zero,Nat.add_zero]at h;rw [h]
theorem zaI {x y:Nat}(h:(limbs x).length<(limbs y).length):x<y:=by
 rcases Nat.lt_or_ge x y with h1|h1
 ·exact h1
 ·have h2:=zS (zC x);rw [zB]at h2;have:=zaC (Nat.lt_of_le_of_lt h1 h2);omega
theorem za6(l:List Nat)(k:Nat)(hk:k<l.length):valL l=valL (l.take k)+10 ^ k*(l.getD k 0+10*valL (l.drop (k+1))):=by
 have e:l=l.take k++(l.getD k 0::l.drop (k+1)):=by
  conv=>lhs;rw [←List.take_append_drop k l]
  congr 1;rw [List.drop_eq_getElem_cons hk,List.getD_eq_getElem?_getD,List.getElem?_eq_getElem hk];rfl
 have h:(l.take k).length=k:=by simp;omega
 conv=>lhs;rw [e]
 rw [zav,h,valL]
theorem zeI {l r:List Nat}{k:Nat}(ho:okL l)(hlen:l.length=r.length)(hk:k<l.length)(hd:∀ j,k<j→l.getD j 0=r.getD j 0)(h:l.getD k 0<r.getD k 0):valL l<valL r:=by
 have e:l.drop (k+1)=r.drop (k+1):=by
  apply List.ext_getElem?;intro i;rw [List.getElem?_drop,List.getElem?_drop];have:=hd (k+1+i) (by omega);rw [List.getD_eq_getElem?_getD,List.getD_eq_getElem?_getD]at this;by_cases hi:k+1+i<l.length
  ·rw [List.getElem?_eq_getElem hi,List.getElem?_eq_getElem (by omega)]at this ⊢;simpa using this
  ·rw [List.getElem?_eq_none (by omega),List.getElem?_eq_none (by omega)]
 rw [za6 l k hk,za6 r k (by omega),e];have h1:valL (l.take k)<10 ^ k:=by
  have:=zS (l:=l.take k) (fun d hd=>ho d (List.mem_of_mem_take hd));have h2:(l.take k).length=k:=by simp;omega
  rwa [h2]at this
 generalize (10:Nat) ^ k=p at*;generalize valL (r.drop (k+1))=q at*;have h3:p*(l.getD k 0+10*q)+p≤p*(r.getD k 0+10*q):=by rw [←Nat.mul_succ];exact Nat.mul_le_mul_left _ (by omega)
 omega
theorem zld {l r:List Nat}(hlen:l.length=r.length)(hd:∀ j,l.getD j 0=r.getD j 0):l=r:=by
 apply List.ext_getElem?;intro i;have:=hd i;rw [List.getD_eq_getElem?_getD,List.getD_eq_getElem?_getD]at this;by_cases hi:i<l.length
 ·rw [List.getElem?_eq_getElem hi,List.getElem?_eq_getElem (by omega)]at this ⊢;simpa using this
 ·rw [List.getElem?_eq_none (by omega),List.getElem?_eq_none (by omega)]
theorem zoo {n k:Nat}(h:n<10 ^ k):(limbs n).length≤k:=zaC (Nat.lt_of_lt_of_le h (Nat.pow_le_pow_left (by omega) k))
theorem zkN {x y k:Nat}(hx:(limbs x).length≤k)(hy:(limbs y).length≤k):(limbs (x+y)).length≤k+1:=by apply zaC;have h1:=zS (zC x);have h2:=zS (zC y);rw [zB]at h1 h2;have h3:(10:Nat) ^ (limbs x).length≤10 ^ k:=Nat.pow_le_pow_right (by omega) hx;have h4:(10:Nat) ^ (limbs y).length≤10 ^ k:=Nat.pow_le_pow_right (by omega) hy;rw [Nat.pow_succ];generalize (10:Nat) ^ k=p at*;omega
theorem zkL {x y k:Nat}(hx:(limbs x).length≤k):(limbs (x - y)).length≤k:=by apply zaC;have h1:=zS (zC x);rw [zB]at h1;have h3:(10:Nat) ^ (limbs x).length≤10 ^ k:=Nat.pow_le_pow_right (by omega) hx;omega
theorem zkM {x y j k:Nat}(hx:(limbs x).length≤j)(hy:(limbs y).length≤k):(limbs (x*y)).length≤j+k:=by apply zaC;have h1:=zS (zC x);have h2:=zS (zC y);rw [zB]at h1 h2;have h3:(10:Nat) ^ (limbs x).length≤10 ^ j:=Nat.pow_le_pow_right (by omega) hx;have h4:(10:Nat) ^ (limbs y).length≤10 ^ k:=Nat.pow_le_pow_right (by omega) hy;rw [Nat.pow_add];exact Nat.mul_lt_mul_of_lt_of_le (Nat.lt_of_lt_of_le h1 h3) (Nat.le_of_lt (Nat.lt_of_lt_of_le h2 h4)) (Nat.pow_pos (by omega))
theorem zis {l:List Nat}{j d:Nat}(hj:j<l.length):valL (l.set j d)+10 ^ j*l.getD j 0=valL l+10 ^ j*d:=by
 have h1:=za6 l j hj;have h2:=za6 (l.set j d) j (by simpa using hj);have e1:(l.set j d).take j=l.take j:=by rw [List.take_set_of_le (Nat.le_refl _)]
 have e2:(l.set j d).drop (j+1)=l.drop (j+1):=by rw [List.drop_set_of_lt (by omega)]
 have e3:(l.set j d).getD j 0=d:=by rw [List.getD_eq_getElem?_getD,List.getElem?_set_self (by simpa using hj)];rfl
 rw [e1,e2,e3]at h2;rw [h1,h2];generalize (10:Nat) ^ j=p at*;generalize 10*valL (l.drop (j+1))=q at*;rw [Nat.mul_add,Nat.mul_add];omega
theorem zbj {l:List Nat}{i j d:Nat}(h:i≠j):(l.set i d).getD j 0=l.getD j 0:=by rw [List.getD_eq_getElem?_getD,List.getElem?_set_ne h,List.getD_eq_getElem?_getD]
theorem zdT {l:List Nat}{i d:Nat}(h:okL l)(hd:d<10):okL (l.set i d):=by
 intro x hx;rcases List.mem_or_eq_of_mem_set hx with h1|h1
 ·exact h x h1
 ·omega
def zdL(x y:List Nat)(i V0 k:Nat)(l:List Nat)(c:Nat):Prop:=
 l.length=x.length+y.length+1∧okL l∧c<10∧valL l+10 ^ (i+k)*c=V0+10 ^ i*(x.getD i 0*valL (y.take k))∧
 (k≤y.length→l.getD (i+y.length) 0=0)∧(∀ j,i+y.length<j→l.getD j 0=0)∧(k=y.length+1→c=0)
def mulP(x y:List Nat)(i k:Nat)(l:List Nat)(c:Nat):Nat:=l.getD (i+k) 0+c+x.getD i 0*y.getD k 0
theorem zjb {x y:List Nat}{i k:Nat}{l:List Nat}{c:Nat}(hx:okL x)(hy:okL y)(hl:okL l)(hc:c<10):mulP x y i k l c<100∧x.getD i 0*y.getD k 0≤81:=by have h1:=getD_lt hx i;have h2:=getD_lt hy k;have h3:=getD_lt hl (i+k);have h4:x.getD i 0*y.getD k 0≤9*9:=Nat.mul_le_mul (by omega) (by omega);unfold mulP;generalize x.getD i 0*y.getD k 0=q at*;omega
theorem zoh {x y:List Nat}{i V0 k:Nat}{l:List Nat}{c:Nat}(hx:okL x)(hy:okL y)(hi:i<x.length)(hk:k≤y.length)(h:zdL x y i V0 k l c):
 zdL x y i V0 (k+1) (l.set (i+k) (mulP x y i k l c % 10)) (mulP x y i k l c / 10):=by
 obtain⟨h1,h2,h3,h4,h5,h6,h7⟩:=h
 have hb:=(zjb (i:=i) (k:=k) hx hy h2 h3).1
 have hj:i+k<l.length:=by omega
 refine⟨by simpa using h1,zdT h2 (Nat.mod_lt _ (by omega)),by omega,?_,fun hk'=>?_,fun j hj'=>?_,fun hk'=>?_⟩
 ·have hs:=zis (d:=mulP x y i k l c % 10) hj
  rw [zX, ←Nat.add_assoc,Nat.pow_succ]
  have hp:10 ^ (i+k)=(10:Nat) ^ i*10 ^ k:=Nat.pow_add _ _ _
  have hsp:=split_mul (10 ^ (i+k)) (mulP x y i k l c)
  have hexp:10 ^ (i+k)*mulP x y i k l c=10 ^ (i+k)*l.getD (i+k) 0+10 ^ (i+k)*c+10 ^ i*(x.getD i 0*(10 ^ k*y.getD k 0)):=by rw [hp];unfold mulP;rw [Nat.mul_add,Nat.mul_add];congr 1;rw [Nat.mul_assoc];congr 1;rw [←Nat.mul_assoc, ←Nat.mul_assoc,Nat.mul_comm (10 ^ k) (x.getD i 0)]
  rw [Nat.mul_add (x.getD i 0),Nat.mul_add (10 ^ i)]
  generalize 10 ^ i*(x.getD i 0*valL (y.take k))=a1 at*
  generalize 10 ^ i*(x.getD i 0*(10 ^ k*y.getD k 0))=a2 at*
  generalize (10:Nat) ^ (i+k)=p at*
  generalize p*(mulP x y i k l c % 10)=a3 at*
  generalize p*10*(mulP x y i k l c / 10)=a4 at*
  generalize p*mulP x y i k l c=a5 at*
  generalize p*l.getD (i+k) 0=a6 at*
  generalize p*c=a7 at*
  omega
 ·rw [zbj (by omega)];exact h5 (by omega)
 ·rw [zbj (by omega)];exact h6 j hj'
 ·have hke:k=y.length:=by omega
  subst hke
  have e:mulP x y i y.length l c=c:=by unfold mulP;rw [h5 (Nat.le_refl _),zbd y y.length 0 (Nat.le_refl _)];simp
  rw [e];omega
def zcC(x y:List Nat)(i:Nat)(l:List Nat):Prop:=
 l.length=x.length+y.length+1∧okL l∧valL l=valL (x.take i)*valL y∧∀ j,i+y.length≤j→l.getD j 0=0
theorem zkG(x y:List Nat):zcC x y 0 (List.replicate (x.length+y.length+1) 0):=by
 have hv:∀ n,valL (List.replicate n 0)=0:=by intro n;induction n with
  |zero=>rfl
  |succ n ih=>rw [List.replicate_succ,valL,ih]
 refine⟨by simp,fun d hd=>by have:=List.eq_of_mem_replicate hd;omega,by rw [hv];simp [valL],fun j _=>?_⟩;rw [List.getD_eq_getElem?_getD,List.getElem?_replicate];split<;>rfl
theorem zt0 {x y:List Nat}{i:Nat}{l:List Nat}(h:zcC x y i l):zdL x y i (valL l) 0 l 0:=by obtain⟨h1,h2,h3,h4⟩:=h;exact⟨h1,h2,by omega,by simp [valL],fun _=>h4 _ (Nat.le_refl _),fun j hj=>h4 j (by omega),fun h=>by omega⟩
theorem zt1 {x y:List Nat}{i:Nat}{l0 l:List Nat}{c:Nat}(h0:zcC x y i l0)(h:zdL x y i (valL l0) (y.length+1) l c):zcC x y (i+1) l:=by obtain⟨h1,h2,h3,h4,h5,h6,h7⟩:=h;refine⟨h1,h2,?_,fun j hj=>h6 j (by omega)⟩;rw [h7 rfl,Nat.mul_zero,Nat.add_zero,h0.2.2.1,List.take_of_length_le (l:=y) (by omega)]at h4;rw [h4,zX x i,Nat.add_mul,Nat.mul_assoc]
theorem zoi {x y:List Nat}{l:List Nat}(h:zcC x y x.length l):zaf l=limbs (valL x*valL y):=by rw [zaN h.2.1,h.2.2.1,List.take_length]
end Go.Ten

namespace Go.Proofs
open Go.Ab Go.Pl
end Go.Proofs

namespace Go.Pl
theorem zne {m n:Nat}(h:(dec m).length<(dec n).length):m<n:=by refine Nat.lt_of_not_le fun hle=>?_;have h1:=zbZ (Nat.le_refl (dec m).length);have h2:=zbY (n:=n) (k:=(dec m).length) (by omega) (zc3 m);omega
end Go.Pl

namespace Go.Proofs
open Go.Ab Go.Pl
set_option maxHeartbeats 4000000 in
set_option pp.maxSteps 40000 in
theorem valid_ok(a:List UInt8):PCall Tryz.prog 150 [.str a] (.ret (.bool (zN a))):=by
 refine PCall.walk (rs:=[.tmp 2]) [0,2,3,20,22,23,24,35] [] mixed (zh) (zf) call150 Tryz.func150 rfl Tryz.ntmps150 rfl (by kernel_rfl) (by simp) (by simp [push_cast]) ?_;simp only [go_sem];refine⟨by simp_all;omega,by simp_all,AXc.intro (fun h1=>?_) (fun h1=>?_)⟩
 ·simp only [go_sem];simp only [zN];by_cases h0:a=[]
  ·simp [h0]
  ·by_cases h2:1000<a.length
   ·simp [Nat.not_le.2 h2]
   ·simp [h0,h2]at h1;have h3:¬a.length≤1:=by omega
    simp [h3,h1];omega
 ·simp only [go_sem];refine AXs.loop mixed zh zf (fun i:Nat=>[(0,.str a),(2,.bool false),(22,.int .i64 a.length),(23,.int .i64 i)]) (fun _=>⟨[],0⟩) (fun i=>i≤a.length∧∀ j,j<i→zci (a.getD j 0)=true) (fun i=>a.length - i) 0 (by kernel_rfl) (by simp) (Sub.of0 [] rfl rfl ?_ ?_) ?_
  ·simp only [go_sem]
  ·simp only [go_sem]
  rintro i ⟨hi,hd⟩;simp only [go_sem];refine AXc.introP (fun h2=>?_) (fun h2=>?_)
  ·have h2':i<a.length:=by omega
   have h3:a.length≤1000:=by simp at h1;omega
   simp only [go_sem];refine⟨by omega,by simp;omega,AXc.intro (fun h4=>?_) (fun h4=>?_)⟩
   ·simp only [go_sem];symm;simp only [zN,Bool.and_eq_false_iff];right;rw [Bool.eq_false_iff];intro hall;have:=all_getD.1 hall i h2';simp [zci]at this h4;omega
   ·simp (disch:=first|assumption|(push_cast<;>omega)|omega) only [go_sem];refine zo (i+1) ⟨by omega,fun j hj=>?_⟩ (by omega) (Sub.of0 [] rfl rfl ?_ ?_)
    ·by_cases hji:j=i
     ·subst hji;simp [zci]at h4 ⊢;omega
     ·exact hd j (by omega)
    ·simp only [go_sem];simp
    ·simp only [go_sem]
  ·simp only [go_sem];refine AXa.go mixed (zh) (zf) (by kernel_rfl) ?_;simp only [go_sem];symm;have hie:i=a.length:=by omega
   subst hie;have:=all_getD.2 hd;simp [zN,this];simp at h1;refine⟨⟨h1.1.1,by omega⟩,?_⟩;by_cases h5:a.length≤1
   ·exact .inl h5
   ·exact .inr (by omega)
theorem trim_ok(l:List Nat)(hl:l.length≤1000000):PCall Tryz.prog 153 [.fs (nats .u64 l) l.length] (.ret (.fs (nats .u64 (zaf l)) (zaf l).length)):=by
 refine PCall.walk (rs:=[.tmp 2]) [0,2,14] [] mixed (zh) (zf) zvN Tryz.func153 rfl Tryz.ntmps153 rfl (by kernel_rfl) (by simp) (by simp [push_cast]) ?_;simp only [go_sem];refine AXs.loop mixed zh zf (fun n:Nat=>[(0,.fs (nats .u64 (l.take n)) n)]) (fun _=>⟨[],0⟩) (fun n=>n≤l.length∧∀ j,n≤j→l.getD j 0=0) (fun n=>n) l.length (by kernel_rfl)
  ⟨Nat.le_refl _,fun j hj=>by simp [List.getD_eq_getElem?_getD,List.getElem?_eq_none hj]⟩ (Sub.of0 [] rfl rfl ?_ ?_) ?_
 ·simp only [go_sem];simp
 ·simp only [go_sem]
 rintro n ⟨hn,hz⟩;rcases Nat.eq_zero_or_pos n with rfl|hp
 ·simp only [go_sem];refine AXa.go mixed zh zf (by kernel_rfl) ?_;simp only [go_sem];have:=zcw (Nat.zero_le l.length) hz (.inl rfl);simp [this,nats]
 ·have hd:decide (0<(n:Int))=true:=by simp;omega
  simp (disch:=first|assumption|(push_cast<;>omega)|omega) only [go_sem,hd];refine⟨by omega,by omega,AXc.introP (fun h1=>?_) (fun h1=>?_)⟩
  ·simp (disch:=first|assumption|(push_cast<;>omega)|omega) only [go_sem];refine⟨by omega,zo (n - 1) ⟨by omega,fun j hj=>?_⟩ (by omega) (Sub.of0 [] rfl rfl ?_ ?_)⟩
   ·by_cases hjn:j=n - 1
    ·subst hjn;omega
    ·exact hz j (by omega)
   ·simp only [go_sem];rw [Nat.min_eq_left (by omega)]
   ·simp only [go_sem]
  ·simp only [go_sem];refine AXa.go mixed zh zf (by kernel_rfl) ?_;simp only [go_sem];have h2:=zcw hn hz (.inr (by omega));rw [h2];simp;omega
end Go.Proofs

namespace Go.Proofs
open Go.Ab Go.Pl
noncomputable def cValid:List V→Option PR:=zG (fun a:List UInt8=>[.str a]) (fun _=>True) fun a=>.ret (.bool (zN a))
theorem zvU(a:List UInt8):cValid [.str a]=some (.ret (.bool (zN a))):=zn (pat:=fun a:List UInt8=>[.str a]) (fun x y h=>by simpa using h) a trivial
theorem zcd:∀ args r,cValid args=some r→PCall Tryz.prog 150 args r:=zk fun a _=>valid_ok a
noncomputable def cTrim:List V→Option PR:=zG (fun l:List Nat=>[.fs (nats .u64 l) l.length]) (fun l=>l.length≤1000000) fun l=>.ret (.fs (nats .u64 (zaf l)) (zaf l).length)
theorem zoP(l:List Nat)(n:Nat)(hn:n=l.length)(h:l.length≤1000000):cTrim [.fs (nats .u64 l) n]=some (.ret (.fs (nats .u64 (zaf l)) (zaf l).length)):=by subst hn;exact zn (pat:=fun l:List Nat=>[.fs (nats .u64 l) l.length]) (fun x y h=>by simp at h;exact zar h.1) l h
theorem zvV:cTrim [.fs [] 0]=some (.ret (.fs [] 0)):=zoP [] 0 rfl (by simp)
theorem zbJ:∀ args r,cTrim args=some r→PCall Tryz.prog 153 args r:=zk trim_ok
attribute [go_sem] zvU zoP zvV
theorem okL_snoc {l:List Nat}{d:Nat}(h:okL l)(hd:d<1000000000):okL (l++[d]):=okL_append.2 ⟨h,fun x hx=>by simp at hx;omega⟩
def bkV(l:List Nat):V:=match l with|[]=>.nilS|_=>.sl 0 0 l.length 1 none
def bkBs(l:List Nat):List (Nat×Blk):=match l with|[]=>[]|_=>[(0,.cells (nats .u64 l))]
def bkN(l:List Nat):Nat:=match l with|[]=>0|_=>1
theorem bk_v(l:List Nat):Rn (piL []) (· <bkN l) (bkV l) (bkV l):=by cases l<;>simp only [bkV,bkN,go_sem]<;>simp
theorem bk_h(l:List Nat):subH (piL []) (bkN l) (bkBs l) (bkBs l):=by cases l<;>simp only [bkBs,bkN,go_sem]<;>simp
theorem bk_k(l:List Nat):piOK [] 0 (keysB (bkBs l))=true:=by cases l<;>rfl
set_option maxHeartbeats 4000000 in
theorem zwG(a:List UInt8)(hd:a.all zci=true)(hl:a.length≤1000):PCall Tryz.prog 151 [.str a] (.ret (.fs (nats .u64 (limbs (valD a))) (limbs (valD a)).length)):=by
 refine PCall.walk (rs:=[.tmp 2]) [0,2,3,4,5,6,9,18] [] mixed (zg zbJ zh) (zf) call151 Tryz.func151 rfl Tryz.ntmps151 rfl (by kernel_rfl) (by simp) (by simp [push_cast]) ?_;simp only [go_sem];refine AXs.loop mixed (zg zbJ zh) zf (fun(p:List Nat×Nat)=>[(0,.str (a.take p.2)),(3,bkV p.1)]) (fun p=>⟨bkBs p.1,bkN p.1⟩) (fun p=>p.2≤a.length∧okL p.1∧p.1.length+p.2≤1000∧valL p.1+1000000000 ^ p.1.length*valD (a.take p.2)=valD a) (fun p=>p.2) ([],a.length) (by kernel_rfl)
  ⟨Nat.le_refl _,(show okL []from fun d hd=>nomatch hd),by simpa using hl,by simp [valL]⟩ (Sub.of0 [] rfl rfl ?_ ?_) ?_
 ·simp only [go_sem,List.take_length,bkV]
 ·simp only [go_sem,bkBs]
 rintro⟨l,m⟩ ⟨hm,ho,hlm,hv⟩;dsimp only at hm ho hlm hv ⊢;have hmin:min m a.length=m:=Nat.min_eq_left hm;simp (disch:=first|assumption|(push_cast<;>omega)|omega) only [go_sem,hmin];refine AXc.introP (fun h1=>?_) (fun h1=>?_)
 ·have hc:maxI 0 ((m:Int) - 9)=((m - 9:Nat):Int):=by unfold maxI;split<;>omega
  simp (disch:=first|assumption|(push_cast<;>omega)|omega) only [go_sem,hmin,hc];refine AXs.loop mixed (zg zbJ zh) zf (fun i:Nat=>[(0,.str (a.take m)),(3,bkV l),(4,.int .i64 (m - 9:Nat)),(5,.int .u64 (valD ((a.take i).drop (m - 9)):Nat)),(6,.int .i64 i)]) (fun _=>⟨bkBs l,bkN l⟩) (fun i=>m - 9≤i∧i≤m) (fun i=>m - i) (m - 9) (by kernel_rfl)
   ⟨Nat.le_refl _,by omega⟩ (Sub.of0 [] rfl (bk_k l) ?_ (bk_h l)) ?_
  ·simp only [go_sem];refine⟨bk_v l,?_⟩;simp [valD]
  rintro i ⟨hi1,hi2⟩;simp (disch:=first|assumption|(push_cast<;>omega)|omega) only [go_sem,hmin];refine AXc.introP (fun h2=>?_) (fun h2=>?_)
  ·have him:i<m:=by omega
   have hia:i<a.length:=by omega
   have hg:(a.take m).getD i 0=a.getD i 0:=getD_take _ _ _ _ him;have hdi:=zdG (all_getD.1 hd i hia);have hv2:valD ((a.take (i+1)).drop (m - 9))=10*valD ((a.take i).drop (m - 9))+((a.getD i 0).toNat - 48):=by rw [zbF a i 0 hia,List.drop_append_of_le_length (by simp;omega),zfL]
   have hlt:valD ((a.take i).drop (m - 9))<100000000:=by have h3:((a.take i).drop (m - 9)).all zci=true:=List.all_eq_true.2 fun x hx=>List.all_eq_true.1 hd x (List.mem_of_mem_take (List.mem_of_mem_drop hx));have h4:=zie h3;have h5:10 ^ ((a.take i).drop (m - 9)).length≤10 ^ 8:=Nat.pow_le_pow_right (by omega) (by simp;omega);omega
   simp (disch:=first|assumption|(push_cast<;>omega)|omega) only [go_sem,hmin,hg];refine⟨by omega,zo (i+1) ⟨by omega,by omega⟩ (by omega) (Sub.of0 [] rfl (bk_k l) ?_ (bk_h l))⟩;simp only [go_sem];refine⟨bk_v l,?_⟩;rw [hv2];simp only [V.int.injEq,true_and];omega
  ·have him:i=m:=by omega
   subst him;have hs:(a.take i).all zci=true:=List.all_eq_true.2 fun x hx=>List.all_eq_true.1 hd x (List.mem_of_mem_take hx);have hlt:valD ((a.take i).drop (i - 9))<1000000000:=by have h3:((a.take i).drop (i - 9)).all zci=true:=List.all_eq_true.2 fun x hx=>List.all_eq_true.1 hs x (List.mem_of_mem_drop hx);have h4:=zie h3;have h5:10 ^ ((a.take i).drop (i - 9)).length≤10 ^ 9:=Nat.pow_le_pow_right (by omega) (by simp;omega);omega
   have hnx:=bk_next hm hv;have hinc:i - 9<i:=by omega
   have hon:okL (l++[valD ((a.take i).drop (i - 9))]):=okL_snoc ho hlt;have hmi:min (i - 9) i=i - 9:=by omega
   simp only [go_sem];refine AXa.go mixed (zg zbJ zh) (zf) (by kernel_rfl) ?_;rcases l with _|⟨d,l⟩
   ·simp (disch:=first|assumption|(push_cast<;>omega)|omega) only [go_sem,hmin,bkV,bkBs,bkN];refine⟨by omega,zo ([]++[valD ((a.take i).drop (i - 9))],i - 9) ⟨by omega,hon,by simp;omega,hnx⟩ hinc (Sub.of0 [(0,1)] rfl rfl ?_ ?_)⟩
    ·simp only [go_sem,hmi]
    ·simp only [go_sem];simp [nats]
   ·simp (disch:=first|assumption|(push_cast<;>omega)|omega) only [go_sem,hmin,bkV,bkBs,bkN,zbU];have hll:l.length+1+i≤1000:=hlm;refine⟨by omega,by omega,zo ((d::l)++[valD ((a.take i).drop (i - 9))],i - 9) ⟨by omega,hon,by simp at hlm ⊢;omega,hnx⟩ hinc (Sub.of0 [(0,2)] rfl rfl ?_ ?_)⟩
    ·simp only [go_sem,hmi];simp
    ·simp only [go_sem];simp [nats]
 ·have hm0:m=0:=by omega
  subst hm0;rcases l with _|⟨d,l⟩
  ·simp only [go_sem,bkV,bkBs];refine AXa.go mixed (zg zbJ zh) zf (by kernel_rfl) ?_;simp only [go_sem];rw [zon ho hv];simp [zaf,nats]
  ·simp only [go_sem,bkV,bkBs,bkN];refine AXa.fz [0] rfl rfl rfl (env':=[(3,.fs (nats .u64 (d::l)) (d::l).length)]) (bs':=[]) (n':=1) ?_ ?_ ?_
   ·simp only [go_sem];right;exact FrzF.slp (by simp) rfl rfl (by simp [zbU]) (by simp [zb3]) (zaa _ _)
   ·simp only [go_sem]
   refine AXa.go mixed (zg zbJ zh) zf (by kernel_rfl) ?_;simp (disch:=first|assumption|(push_cast<;>omega)|omega) only [go_sem];rw [zon ho hv];exact⟨rfl,rfl⟩
end Go.Proofs
