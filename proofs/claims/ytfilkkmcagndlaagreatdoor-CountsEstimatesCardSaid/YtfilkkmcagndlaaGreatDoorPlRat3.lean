/- Numbers and their texts: what is read from what was written; when a sum is nothing. -/
import Derived.Test.YtfilkkmcagndlaaGreatDoorAbIn
import Derived.Test.YtfilkkmcagndlaaGreatDoorQRat5
import Derived.Test.YtfilkkmcagndlaaGreatDoorPRow
import Derived.Test.YtfilkkmcagndlaaGreatDoorVS
import Derived.Test.YtfilkkmcagndlaaGreatDoorQRat2
import Derived.Test.YtfilkkmcagndlaaGreatDoorM2
set_option linter.all false
namespace Go.Proofs
open Go.Ab Go.Pl
theorem decHead {n:Nat}:(dec n).getD 0 0≠45:=by
 have h:=zc6 n;have hp:=zeh n;intro e;have hm:(dec n).getD 0 0∈dec n:=by rw [List.getD_eq_getElem?_getD,List.getElem?_eq_getElem hp];exact List.getElem_mem hp
 have:=zbR (List.all_eq_true.1 h _ hm);rw [e]at this;revert this;decide
theorem decNo(n:Nat):∀ x∈dec n,(x==47)=false:=fun x hx=>by
 have:=zbR (List.all_eq_true.1 (zc6 n) x hx);cases e:x==47 with
 |false=>rfl
 |true=>
  have:x=47:=by simpa using e
  subst this;revert this;decide
theorem zjn(neg:Bool)(n d:Nat)(hn:neg=true→n≠0):zI (ratT neg n d)=(neg,dec n,if d=1 then [49]else dec d,decide (d≠1)):=by
 have hr:∀(y:List UInt8),(if neg=true∧n≠0 then [45]else [])++y=if neg=true then 45::y else y:=fun y=>by
  cases neg with
  |true=>rw [if_pos ⟨rfl,hn rfl⟩,if_pos rfl];rfl
  |false=>rw [if_neg (by simp),if_neg (by simp)];rfl
 have ht:ratT neg n d=if neg=true then 45::(dec n++(if d=1 then []else 47::dec d))else dec n++(if d=1 then []else 47::dec d):=by unfold ratT;rw [List.append_assoc,hr]
 have h0:(dec n++(if d=1 then []else 47::dec d)).getD 0 0=(dec n).getD 0 0:=by rw [List.getD_eq_getElem?_getD,List.getElem?_append_left (zeh n),List.getD_eq_getElem?_getD]
 have hneg:decide ((ratT neg n d).getD 0 0=45)=neg:=by
  rw [ht];cases neg with
  |true=>rw [if_pos rfl];rfl
  |false=>rw [if_neg (by simp),h0];exact decide_eq_false decHead
 have hrest:(if neg=true then(ratT neg n d).drop 1 else ratT neg n d)=dec n++(if d=1 then []else 47::dec d):=by
  rw [ht];cases neg with
  |true=>rw [if_pos rfl,if_pos rfl];rfl
  |false=>rw [if_neg (by simp),if_neg (by simp)]
 have hfn:∀ l:List UInt8,(∀ x∈l,(x==47)=false)→∀ r,(l++47::r).findIdx? (· ==47)=some l.length:=by
  intro l;induction l with
  |nil=>intro _ r;simp [List.findIdx?_cons]
  |cons x l ih=>intro h r;rw [List.cons_append,List.findIdx?_cons];simp only [h x (List.mem_cons_self ..),Bool.false_eq_true,if_false,ih (fun y hy=>h y (List.mem_cons_of_mem _ hy)) r];rfl
 unfold zI;simp only [hneg,hrest];by_cases hd:d=1
 ·have:(dec n++(if d=1 then []else 47::dec d)).findIdx? (· ==47)=none:=by
   rw [if_pos hd,List.append_nil,List.findIdx?_eq_none_iff]
   exact decNo n
  simp only [this]
  rw [if_pos hd,if_pos hd,List.append_nil]
  simp [hd]
 ·have:(dec n++(if d=1 then []else 47::dec d)).findIdx? (· ==47)=some (dec n).length:=by
   rw [if_neg hd];exact hfn _ (decNo n) _
  simp only [this]
  rw [if_neg hd,if_neg hd,List.take_left]
  simp [hd]
theorem zgu {n:Nat}(h:(dec n).length≤400):zaQ (dec n)=true:=by rw [shortN_iff,zgo];exact⟨by simp;omega,h⟩
theorem zmY {neg:Bool}{n d:Nat}(hn:neg=true→n≠0)(hd:0<d)(hg:Nat.gcd n d=1)(ln:(dec n).length≤400)(ld:(dec d).length≤400):ratP (ratT neg n d)=some (neg,n,d):=by
 unfold ratP;rw [zjn neg n d hn];have hv:valD (if d=1 then [49]else dec d)=d:=by
  split
  ·rename_i h;rw [h];rfl
  ·exact zao d
 have h1:dec 1=[49]:=rfl;have hs:zaQ (if d=1 then [49]else dec d)=true:=by
  split
  ·rw [←h1];exact zgu (by decide)
  ·exact zgu ld
 have hok:zca neg (dec n) (if d=1 then [49]else dec d) (decide (d≠1))=true:=by
  unfold zca;rw [zgu ln,hs,hv,zao];have h2:(neg&&decide (dec n=[48]))=false:=by
   cases hneg:neg with
   |false=>rfl
   |true=>have:=hn hneg;simp only [Bool.true_and,decide_eq_false_iff_not];intro e;exact this (dec_is_zero.1 e)
  have h3:(decide (d≠1)&&(decide ((if d=1 then [49]else dec d)=[48])||decide ((if d=1 then [49]else dec d)=[49])))=false:=by
   by_cases h:d=1
   ·simp [h]
   ·rw [if_neg h];have e1:¬dec d=[48]:=fun e=>by have:=dec_is_zero.1 e;omega
    have e2:¬dec d=[49]:=fun e=>h (zah (e.trans h1.symm));simp [e1,e2]
  rw [h2,h3];simp only [Bool.true_and,Bool.not_false,Bool.and_true,decide_eq_true_eq];exact hg
 rw [if_pos hok];simp only [zao,hv]
theorem zew {n:Nat}(h:(dec n).length≤400):ratP (dec n)=some (false,n,1):=by
 have:=zmY (neg:=false) (n:=n) (d:=1) (fun h=>by cases h) (by omega) (Nat.gcd_one_right n) h (by decide);have e:ratT false n 1=dec n:=by unfold ratT;simp
 rwa [e]at this
theorem zhx(m:Nat)(d:Nat)(hd:0<d):((resP (mkV false m d)).2≠0→(resP (mkV false m d)).2=2)∧((resP (mkV false m d)).2=0→ratP (resP (mkV false m d)).1=some (false,m / Nat.gcd m d,d / Nat.gcd m d)∧0<d / Nat.gcd m d):=by
 unfold mkV;split
 ·rw [zhn];exact⟨fun _=>rfl,fun h=>by cases h⟩
 ·rename_i h;rw [zdd];have h':¬(400<(dec (m / Nat.gcd m d)).length∨400<(dec (d / Nat.gcd m d)).length):=by simpa [zd5] using h
  have hg:0<Nat.gcd m d:=Nat.gcd_pos_of_pos_right m hd;have hdg:0<d / Nat.gcd m d:=Nat.div_pos (Nat.le_of_dvd hd (Nat.gcd_dvd_right m d)) hg;refine⟨fun h=>absurd rfl h,fun _=>⟨?_,hdg⟩⟩;exact zmY (fun h=>by cases h) hdg (Nat.coprime_div_gcd_div_gcd hg) (by omega) (by omega)
theorem zkU(a b:Nat):sumS false a false b=(false,a+b):=rfl
theorem zif {k:List UInt8}(hp:(ratP k).isSome=true)(hk:k.head? ≠some 45):∃ n d,ratP k=some (false,n,d)∧0<d:=by
 cases h:ratP k with
 |none=>rw [h]at hp;cases hp
 |some p=>
  obtain⟨q,n,d⟩:=p;have hd:=(zev h).1;have hq:q=false:=by
   unfold ratP at h;split at h
   case isFalse=>cases h
   case isTrue _=>
    simp only [Option.some.injEq,Prod.mk.injEq]at h
    rw [←h.1]
    unfold zI
    have hne:k≠[]:=by rintro rfl;rename_i hk2;revert hk2;decide
    cases k with
    |nil=>exact absurd rfl hne
    |cons c k'=>
     have hc:c≠45:=fun e=>hk (by rw [e];rfl)
     have:decide ((c::k').getD 0 0=45)=false:=decide_eq_false (by simpa using hc)
     simp only [this]
     split<;>rfl
  subst hq;exact⟨n,d,rfl,hd⟩
theorem ratP_0:ratP [48]=some (false,0,1):=by have:=zew (n:=0) (by decide);rwa [zrQ]at this
theorem neg_law {k:List UInt8}(hp:(ratP k).isSome=true):zdz k [48]<0↔k.head? =some 45:=by
 cases h:ratP k with
 |none=>rw [h]at hp;cases hp
 |some p=>
  obtain⟨q,n,d⟩:=p;rw [zld h ratP_0];have hd:=(zev h).1;unfold ratP at h;split at h
  case isFalse=>cases h
  case isTrue hk=>
   simp only [Option.some.injEq,Prod.mk.injEq]at h
   have hne:k≠[]:=by rintro rfl;revert hk;decide
   have hq:q=decide (k.getD 0 0=45):=by rw [←h.1];unfold zI;simp only;split<;>rfl
   have hhd:k.head? =some 45↔k.getD 0 0=45:=by
    cases k with
    |nil=>exact absurd rfl hne
    |cons c k'=>simp
   rw [hhd]
   by_cases hc:k.getD 0 0=45
   ·have hqt:q=true:=by rw [hq];exact decide_eq_true hc
    have hn0:n≠0:=by
     rintro rfl;simp only [zca,Bool.and_eq_true]at hk;have h3:=hk.1.1.2;rw [h.1,hqt]at h3;have hv:=hk.1.1.1.1;have e:(zI k).2.1=[48]:=by have hval:valD (zI k).2.1=0:=h.2.1;have:=zaA (shortN_iff.1 hv).1;rw [hval]at this;exact this.symm
     rw [e]at h3;simp at h3
    have:sumS q (n*1) (!false) (0*d)=(true,n):=by rw [hqt];simp [sumS]
    rw [this]
    simp only [hn0,if_false,if_true]
    exact⟨fun _=>hc,fun _=>by decide⟩
   ·have hqf:q=false:=by rw [hq];exact decide_eq_false hc
    have:(sumS q (n*1) (!false) (0*d))=(false,n):=by rw [hqf];simp [sumS]
    rw [this]
    constructor
    ·intro h;split at h<;>simp at h
    ·intro h;exact absurd h hc
theorem zmO {k:List UInt8}(hp:(ratP k).isSome=true)(hk:k.head? ≠some 45){len s:Nat}(hl:0<len)(ll:len≤1000000)(ls:s≤1000000000000):
 ((resP (zK k (dec len))).2≠0→(resP (zK k (dec len))).2=2)∧
 ((resP (zK k (dec len))).2=0→((resP (zM (resP (zK k (dec len))).1 (dec s))).2≠0→(resP (zM (resP (zK k (dec len))).1 (dec s))).2=2)∧
  ((resP (zM (resP (zK k (dec len))).1 (dec s))).2=0→∃ n2 d2,ratP (resP (zM (resP (zK k (dec len))).1 (dec s))).1=some (false,n2,d2)∧0<d2∧(n2=0→s=0∧ratP k=some (false,0,1)))):=by
 obtain⟨n,d,hr,hd⟩:=zif hp hk
 have l1:(dec len).length≤400:=Nat.le_trans (zat (k:=7) (by omega) (by omega)) (by omega)
 have l2:(dec s).length≤400:=Nat.le_trans (zat (k:=13) (by omega) (by omega)) (by omega)
 have hm:zK k (dec len)=mkV false (n*len) d:=by rw [zih hr (zew l1)];simp
 obtain⟨m1,m2⟩:=zhx (n*len) d hd
 rw [hm]
 refine⟨m1,fun h0=>?_⟩
 obtain⟨q1,q2⟩:=m2 h0
 have ha:zM (resP (mkV false (n*len) d)).1 (dec s)=mkV false (n*len / Nat.gcd (n*len) d+s*(d / Nat.gcd (n*len) d)) (d / Nat.gcd (n*len) d):=by rw [zez q1 (zew l2),zkU];simp
 rw [ha]
 obtain⟨a1,a2⟩:=zhx (n*len / Nat.gcd (n*len) d+s*(d / Nat.gcd (n*len) d)) (d / Nat.gcd (n*len) d) q2
 refine⟨a1,fun h=>?_⟩
 obtain⟨b1,b2⟩:=a2 h
 refine⟨_,_,b1,b2,fun hz=>?_⟩
 generalize hG:Nat.gcd (n*len) d=G at*
 have hGp:0<G:=by rw [←hG];exact Nat.gcd_pos_of_pos_right _ hd
 have hsum:n*len / G+s*(d / G)=0:=by
  generalize n*len / G+s*(d / G)=X at hz ⊢;have hg2:0<Nat.gcd X (d / G):=Nat.gcd_pos_of_pos_right _ q2;rcases Nat.eq_zero_or_pos X with h|h
  ·exact h
  ·have:=Nat.div_pos (Nat.le_of_dvd h (Nat.gcd_dvd_left X (d / G))) hg2;exact absurd hz (Nat.ne_of_gt this)
 obtain⟨h1,h2⟩:=Nat.add_eq_zero_iff.1 hsum
 have hs0:s=0:=by
  rcases Nat.mul_eq_zero.1 h2 with h|h
  ·exact h
  ·omega
 have hn0:n*len=0:=by
  rcases Nat.eq_zero_or_pos (n*len)with h|h
  ·exact h
  ·have:=Nat.div_pos (Nat.le_of_dvd h (by rw [←hG];exact Nat.gcd_dvd_left ..)) hGp;exact absurd h1 (Nat.ne_of_gt this)
 have hnn:n=0:=by
  rcases Nat.mul_eq_zero.1 hn0 with h|h
  ·exact h
  ·omega
 subst hnn
 have hg1:=(zev hr).2.1
 rw [Nat.gcd_zero_left]at hg1
 rw [hr,hg1]
 exact⟨hs0,rfl⟩
theorem zero_row {k:List UInt8}(hr:ratP k=some (false,0,1)):pR [48] k 0=([48],0):=by
 have h:zM (dec 0) k=mkV false 0 1:=by rw [zez (zew (n:=0) (by decide)) hr,zkU]
 have hm:mkV false 0 1=.tup [.str [48],.int .i64 0]:=by unfold mkV;rw [if_neg (by decide)];rfl
 unfold pR;rw [h,hm,zdd];simp
theorem pR_err {k:List UInt8}(hp:(ratP k).isSome=true)(hk:k.head? ≠some 45){all:List UInt8}{n2 d2:Nat}(ha:ratP all=some (false,n2,d2))(c:Nat)(hc:c≤1000000000):(pR all k c).2≠0→(pR all k c).2=2:=by
 obtain⟨n,d,hr,hd⟩:=zif hp hk;have l2:(dec c).length≤400:=Nat.le_trans (zat (k:=10) (by omega) (by omega)) (by omega);have hadd:zM (dec c) k=mkV false (c*d+n*1) (1*d):=by rw [zez (zew l2) hr,zkU]
 obtain⟨a1,a2⟩:=zhx (c*d+n*1) (1*d) (by omega);unfold pR;rw [hadd];split
 ·rename_i h;obtain⟨b1,b2⟩:=a2 h.1;have hn2:n2≠0:=by rintro rfl;exact h.2 (zmX ha)
  have hd2:=(zev ha).1;generalize (c*d+n*1) / Nat.gcd (c*d+n*1) (1*d)=x at b1;generalize 1*d / Nat.gcd (c*d+n*1) (1*d)=y at b1 b2;rw [zfQ b1 ha,if_neg hn2];exact(zhx (x*d2) (y*n2) (Nat.mul_pos b2 (by omega))).1
 ·exact a1
theorem zm8 {all k:List UInt8}{ns:List Nat}(h:∀ j,(pR all k (ns.getD j 0)).2≠0→(pR all k (ns.getD j 0)).2=2):∀ j,(outR all k ns j).1≠0→(outR all k ns j).1=2
 |0,h0=>absurd rfl h0
 |j+1,h0=>by
  unfold outR at h0 ⊢;split
  ·rename_i h1;rw [if_pos h1]at h0;exact zm8 h j h0
  ·rename_i h1;rw [if_neg h1]at h0;split
   ·rename_i h2;exact h j h2
   ·rename_i h2;rw [if_neg h2]at h0;exact absurd rfl h0
theorem zwW {k:List UInt8}(hp:(ratP k).isSome=true)(hk:k.head? ≠some 45){len s:Nat}(hl:0<len)(ll:len≤1000000)(ls:s≤1000000000000){ns:List Nat}(hn:∀ j,ns.getD j 0≤1000000000):(zeB k len s ns).1≠0→(zeB k len s ns).1=2:=by
 obtain⟨f1,f2⟩:=zmO hp hk hl ll ls;unfold zeB;split
 ·rename_i h;exact fun _=>f1 h
 ·rename_i h;obtain⟨g1,g2⟩:=f2 (by simpa using h);split
  ·rename_i h2;exact fun _=>g1 h2
  ·rename_i h2;obtain⟨n2,d2,hr,_⟩:=g2 (by simpa using h2);exact zm8 (fun j=>pR_err hp hk hr _ (hn j)) _
end Go.Proofs

namespace Go.Proofs
open Go.Ab Go.Cnt Go.Pl
theorem zyc(T:List Str)(b:Str):∀ j,(∃ p,p<j∧T.getD p []=b)→ixU T b j<j∧T.getD (ixU T b j) []=b
 |0,⟨p,hp,_⟩=>by omega
 |j+1,⟨p,hp,e⟩=>by
  unfold ixU;split
  ·rename_i h;exact⟨by omega,h⟩
  ·rename_i h;have hpj:p≠j:=by rintro rfl;exact h e
   have:=zyc T b j ⟨p,by omega,e⟩;exact⟨by omega,this.2⟩
theorem zrC(T:List Str)(b:Str):∀ j,(∀ p,p<j→T.getD p []≠b)→ixU T b j=T.length
 |0,_=>rfl
 |j+1,h=>by unfold ixU;rw [if_neg (h j (by omega)),zrC T b j fun p hp=>h p (by omega)]
theorem zkj {T:List Str}(h:IncS T):∀ i j,i<j→j<T.length→T.getD i []≠T.getD j []:=fun i j hij hj e=>by have:=List.pairwise_iff_getElem.1 h i j (by omega) hj hij;rw [List.getD_eq_getElem?_getD,List.getD_eq_getElem?_getD,List.getElem?_eq_getElem hj,List.getElem?_eq_getElem (by omega)]at e;simp only [Option.getD_some]at e;rw [e,za8]at this;cases this
theorem ixU_at {T:List Str}(hT:IncS T)(h0:[]∉T){b:Str}(hb:b∈T∨b=[]){j:Nat}(hj:j≤T.length):ixU T b T.length=j↔(T++[[]]).getD j []=b:=by
 have nz:∀ p,p<T.length→T.getD p []≠[]:=fun p hp e=>h0 (by rw [←e];exact zdG hp);by_cases hm:b∈T
 ·obtain⟨p,hp,rfl⟩:=List.mem_iff_getElem.1 hm;have hpe:T.getD p []=T[p]:=by rw [List.getD_eq_getElem?_getD,List.getElem?_eq_getElem hp];rfl
  obtain⟨k1,k2⟩:=zyc T T[p] T.length ⟨p,hp,hpe⟩;constructor
  ·intro e;rw [←e,getD_in T k1,k2]
  ·intro e;have hjl:j<T.length:=by
    rcases Nat.lt_or_ge j T.length with h|h
    ·exact h
    ·obtain rfl:j=T.length:=by omega
     rw [zl0, ←hpe]at e;exact absurd e.symm (nz p hp)
   rw [getD_in T hjl]at e;rcases Nat.lt_trichotomy (ixU T T[p] T.length) j with h|h|h
   ·exact absurd (k2.trans e.symm) (zkj hT _ _ h hjl)
   ·exact h
   ·exact absurd (e.trans k2.symm) (zkj hT _ _ h k1)
 ·have hbe:=hb.resolve_left hm;subst hbe;rw [zrC T [] T.length nz];constructor
  ·intro e;rw [←e,zl0]
  ·intro e;rcases Nat.lt_or_ge j T.length with h|h
   ·rw [getD_in T h]at e;exact absurd e (nz j h)
   ·omega
theorem zqM {l:List Ent}(hs:zcD l){T:List Str}(hT:IncS T)(h0:[]∉T)(hB:∀ e∈l,e.1.2∈T∨e.1.2=[])(a:Str){j:Nat}(hj:j≤T.length):∀ i,i≤l.length→(vecU a T l i).getD j 0=(tot (l.take i) (a,(T++[[]]).getD j [])).toNat
 |0,_=>by show (List.replicate (T.length+1) 0).getD j 0=0;rw [List.getD_eq_getElem?_getD,List.getElem?_replicate];split<;>rfl
 |i+1,hi=>by
  have ih:=zqM hs hT h0 hB a hj i (by omega);have hm:=zcq (show i<l.length by omega);have q:=hs _ hm;have hb:=hB _ hm;have hn:0≤tot (l.take i) (a,(T++[[]]).getD j []):=zsG (fun e he=>(hs e (List.mem_of_mem_take he)).1) _;rw [zby l i (by omega),zgq,zv0];show (zjh a T (vecU a T l i) (nthE l i)).getD j 0=_;have hlen:=zeV a T l i;unfold zjh;by_cases ha:(nthE l i).1.1=a
  ·rw [if_pos ha];by_cases hk:ixU T (nthE l i).1.2 T.length=j
   ·have e:=(ixU_at hT h0 hb hj).1 hk;rw [hk,List.getD_eq_getElem?_getD,List.getElem?_set,if_pos rfl,if_pos (by omega)];simp only [Option.getD_some];rw [if_pos (by rw [e, ←ha]),ih];omega
   ·have e:¬(nthE l i).1=(a,(T++[[]]).getD j []):=fun e=>hk ((ixU_at hT h0 hb hj).2 (by rw [e]));rw [List.getD_eq_getElem?_getD,List.getElem?_set,if_neg hk, ←List.getD_eq_getElem?_getD,if_neg e,ih];omega
  ·rw [if_neg ha,if_neg (fun e=>ha (by rw [e])),ih];omega
theorem cnt_law {l:List Ent}(hd:Dif l)(hs:zcD l){T:List Str}(hT:IncS T)(h0:[]∉T)(hB:∀ e∈l,e.1.2∈T∨e.1.2=[])(a:Str):cntL (tabN l l.length) a (T++[[]])=vecU a T l l.length:=by
 have hl1:(cntL (tabN l l.length) a (T++[[]])).length=T.length+1:=by rw [zma];simp
 have hl2:=zeV a T l l.length;apply List.ext_getElem (by omega);intro j h1 h2;have hj:j≤T.length:=by omega
 have e1:=zmb (tabN l l.length) a (T++[[]]) j (by simp;omega);have e2:=zqM hs hT h0 hB a hj l.length (Nat.le_refl _);rw [List.take_length,zoN hd]at e2;rw [zqY hd]at e1;rw [List.getD_eq_getElem?_getD,List.getElem?_eq_getElem h1]at e1;rw [List.getD_eq_getElem?_getD,List.getElem?_eq_getElem h2]at e2;simp only [Option.getD_some]at e1 e2;rw [e1,e2]
theorem zkL(a:Str)(T:List Str)(l:List Ent)(j:Nat):∀ i,(vecU a T l i).getD j 0≤sumU a l i
 |0=>by show (List.replicate (T.length+1) 0).getD j 0≤0;rw [List.getD_eq_getElem?_getD,List.getElem?_replicate];split<;>simp
 |i+1=>by
  have h1:=zkL a T l j i;have h2:=zkL a T l (ixU T (nthE l i).1.2 T.length) i;show (zjh a T (vecU a T l i) (nthE l i)).getD j 0≤_;unfold zjh sumU;split
  ·rw [List.getD_eq_getElem?_getD,List.getElem?_set];split
   ·split
    ·simp only [Option.getD_some];omega
    ·simp
   ·rw [←List.getD_eq_getElem?_getD];omega
  ·exact h1
theorem incB_dif {l:List Ent}(h:incB l=true):Dif l:=by
 unfold incB at h;have h1:∀ i,i+1<l.length→lt (nthE l i).1 (nthE l (i+1)).1=true:=@of_decide_eq_true _ (Classical.propDecidable _) h;have key:∀ j i,i<j→j<l.length→lt (nthE l i).1 (nthE l j).1=true:=by
  intro j;induction j with
  |zero=>intro i hi;omega
  |succ j ih=>
   intro i hi hj;by_cases hij:i=j
   ·subst hij;exact h1 i hj
   ·exact lt_trans (ih i (by omega) (by omega)) (h1 j hj)
 refine List.pairwise_iff_getElem.2 fun i j hi hj hij e=>?_;have:=key j i hij hj;unfold nthE at this;rw [List.getD_eq_getElem?_getD,List.getD_eq_getElem?_getD,List.getElem?_eq_getElem hi,List.getElem?_eq_getElem hj]at this;simp only [Option.getD_some]at this;rw [e,lt_irrefl]at this;cases this
theorem vB_dif {q:Str→Bool}{l:List Ent}(h:vB q l=true):Dif l:=by unfold vB at h;simp only [Bool.and_eq_true]at h;exact incB_dif h.2
theorem zsA {A B:List Ent}(h:zct A B=true):(Dif A∧A.length≤30000)∧Dif B∧B.length≤30000:=by
 unfold zct at h;simp only [Bool.and_eq_true]at h;have l:∀ {q:Str→Bool} {l:List Ent},vB q l=true→l.length≤30000:=fun h=>by unfold vB at h;simp only [Bool.and_eq_true,decide_eq_true_eq]at h;exact h.1.1
 exact⟨⟨vB_dif h.1,l h.1⟩,vB_dif h.2,l h.2⟩
theorem zwr {l:List Ent}(hd:Dif l)(hs:zcD l)(hl:l.length≤30000){T:List Str}(hT:IncS T)(h0:[]∉T)(hTl:T.length≤90000)(hB:∀ e∈l,e.1.2∈T∨e.1.2=[]){k:Str}(lk:k.length≤1000000)(hp:(ratP k).isSome=true)(hk:k.head? ≠some 45)(a:Str):
 RowOK (tabN l l.length) (tabS l l.length) (T++[[]]) a k∧
 zcG k (T++[[]]).length (valS (tabS l l.length) a).toNat (cntL (tabN l l.length) a (T++[[]]))=.tup [.fs (strs (zeB k (T.length+1) (sumU a l l.length) (vecU a T l l.length)).2) (zeB k (T.length+1) (sumU a l l.length) (vecU a T l l.length)).2.length,.int .i64 (zeB k (T.length+1) (sumU a l l.length) (vecU a T l l.length)).1]∧
 ((zeB k (T.length+1) (sumU a l l.length) (vecU a T l l.length)).1≠0→(zeB k (T.length+1) (sumU a l l.length) (vecU a T l l.length)).1=2):=by
 have hsv:=zkT hs a l.length (Nat.le_refl _)
 have hsl:=zoO (a:=a) hs l.length
 have hle:=cnt_law hd hs hT h0 hB a
 have hlen:(T++[[]]).length=T.length+1:=by simp
 have hsn:(valS (tabS l l.length) a).toNat=sumU a l l.length:=by rw [hsv];omega
 have hvb:∀ j,(vecU a T l l.length).getD j 0≤1000000000∨True:=fun j=>.inr trivial
 have hvs:=fun j=>zkL a T l j l.length
 have hval:∀ x,0≤val (tabN l l.length) x∧val (tabN l l.length) x≤1000000:=fun x=>by rw [zqY hd];exact zsB (by omega) hs x
 have hc1:∀ j,(cntL (tabN l l.length) a (T++[[]])).getD j 0≤1000000:=fun j=>by
  by_cases hj:j<(T++[[]]).length
  ·rw [zmb _ _ _ _ hj];have:=(hval (a,(T++[[]]).getD j [])).2;omega
  ·rw [List.getD_eq_getElem?_getD,List.getElem?_eq_none (by rw [zma];omega)];simp
 refine⟨⟨by omega,by omega,hval,by rw [hsv];omega,lk,?_⟩,?_,?_⟩
 ·intro h1 h2 j hj
  rw [hlen,hsn]at h2
  rw [hlen]at h1
  obtain⟨_,f2⟩:=zmO hp hk (len:=T.length+1) (s:=sumU a l l.length) (by omega) (by omega) (by omega)
  obtain⟨_,g2⟩:=f2 h1
  rw [h2]at g2
  obtain⟨n2,d2,hr,_,hz⟩:=g2 rfl
  have e:some (false,0,1)=some (false,n2,d2):=ratP_0.symm.trans hr
  simp only [Option.some.injEq,Prod.mk.injEq,true_and]at e
  obtain⟨hs0,hk0⟩:=hz e.1.symm
  have hc:=hvs j
  rw [hs0]at hc
  rw [hle]
  have:(vecU a T l l.length).getD j 0=0:=by omega
  rw [this]
  exact zero_row hk0
 ·rw [hsn,hlen,hle];rfl
 ·refine zwW hp hk (by omega) (by omega) (by omega) fun j=>?_
  rw [←hle]
  have:=hc1 j
  omega
theorem mem_tagA {A B:List Ent}{e:Ent}(he:e∈A):e.1.2∈nmS (tagL A B)∨e.1.2=[]:=by
 by_cases h:e.1.2=[]
 ·exact .inr h
 ·refine .inl (mem_nmS.2 ⟨?_,h⟩);unfold tagL zcC;exact List.mem_append_left _ (List.mem_flatMap.2 ⟨e,he,by simp⟩)
theorem zxK {B:List Ent}{e:Ent}(he:e∈B):e.1.2∈nmS (zaq B)∨e.1.2=[]:=by
 by_cases h:e.1.2=[]
 ·exact .inr h
 ·exact .inl (mem_nmS.2 ⟨List.mem_map.2 ⟨e,he,rfl⟩,h⟩)
theorem est_law(A B:List Ent)(k:Str)(sA:zaG A)(sB:zaG B)(lk:k.length≤1000000)(hv:zct A B=true)(hp:(ratP k).isSome=true)(hk:k.head? ≠some 45)(i:Nat):
 RowOK (tabN A A.length) (tabS A A.length) (nmS (tagL A B)++[[]]) ((nmS (tagL A B)++[[]]).getD i []) k∧RowOK (tabN B B.length) (tabS B B.length) (nmS (zaq B)++[[]]) ((nmS (tagL A B)++[[]]).getD i []) k∧
 zcG k (nmS (tagL A B)++[[]]).length (valS (tabS A A.length) ((nmS (tagL A B)++[[]]).getD i [])).toNat (cntL (tabN A A.length) ((nmS (tagL A B)++[[]]).getD i []) (nmS (tagL A B)++[[]]))=.tup [.fs (strs (rowN A (nmS (tagL A B)) k i).2) (rowN A (nmS (tagL A B)) k i).2.length,.int .i64 (rowN A (nmS (tagL A B)) k i).1]∧
 zcG k (nmS (zaq B)++[[]]).length (valS (tabS B B.length) ((nmS (tagL A B)++[[]]).getD i [])).toNat (cntL (tabN B B.length) ((nmS (tagL A B)++[[]]).getD i []) (nmS (zaq B)++[[]]))=.tup [.fs (strs (rowE B (nmS (tagL A B)) (nmS (zaq B)) k i).2) (rowE B (nmS (tagL A B)) (nmS (zaq B)) k i).2.length,.int .i64 (rowE B (nmS (tagL A B)) (nmS (zaq B)) k i).1]∧
 ((rowN A (nmS (tagL A B)) k i).1≠0→(rowN A (nmS (tagL A B)) k i).1=2)∧((rowE B (nmS (tagL A B)) (nmS (zaq B)) k i).1≠0→(rowE B (nmS (tagL A B)) (nmS (zaq B)) k i).1=2):=by
 obtain⟨⟨dA,lA⟩,dB,lB⟩:=zsA hv
 obtain⟨smA,smB⟩:=zes hv
 have tl:(nmS (tagL A B)).length≤90000:=by
  have:=zit (tagL A B);have h2:(tagL A B).length=2*A.length+B.length:=by unfold tagL;rw [List.length_append,zc3,List.length_map]
  omega
 have wl:(nmS (zaq B)).length≤90000:=by
  have:=zit (zaq B);have h2:(zaq B).length=B.length:=by unfold zaq;rw [List.length_map]
  omega
 have h0:∀ L:List Str,[]∉nmS L:=fun L h=>(mem_nmS.1 h).2 rfl
 obtain⟨a1,a2,a3⟩:=zwr dA smA lA (zlD (tagL A B)) (h0 _) tl (fun e he=>mem_tagA he) lk hp hk ((nmS (tagL A B)++[[]]).getD i [])
 obtain⟨b1,b2,b3⟩:=zwr dB smB lB (zlD (zaq B)) (h0 _) wl (fun e he=>zxK he) lk hp hk ((nmS (tagL A B)++[[]]).getD i [])
 exact⟨a1,b1,a2,b2,a3,b3⟩
end Go.Proofs

namespace Go.Proofs
open Go.Ab Go.Cnt
end Go.Proofs

namespace Go.Proofs
open Go.Ab Go.Cnt Go.Pl
set_option maxHeartbeats 4000000 in
theorem strsS_ok(l:List Str)(hl:l.length≤1000000):PCall Tryz.prog 41 [.fs (strs l) l.length,.fs (strs l) l.length] (.ret (.bool true)):=by
 refine PCall.walk (rs:=[.tmp 4]) [0,1,4,5,10,14,25] [] mixed (zh) (zg) call41 Tryz.func41 rfl Tryz.ntmps41 rfl (by kernel_rfl) (by simp) (by simp [push_cast]) ?_;simp (disch:=first|assumption|(push_cast<;>omega)|omega) only [go_sem];refine AXs.loop mixed (zh) (zg) (fun i:Nat=>[(0,.fs (strs l) l.length),(1,.fs (strs l) l.length),(5,.int .i64 i)]) (fun _=>⟨[],0⟩) (fun i=>i≤l.length) (fun i=>l.length - i) 0 (by kernel_rfl) (Nat.zero_le _) (Sub.of0 [] rfl rfl ?_ ?_) ?_
 ·simp only [go_sem]
 ·simp only [go_sem]
 intro i h1;simp (disch:=first|assumption|(push_cast<;>omega)|omega) only [go_sem];refine AXc.introP (fun h3=>?_) (fun h3=>?_)
 ·have hi:i<l.length:=by omega
  simp (disch:=first|assumption|(push_cast<;>omega)|omega) only [go_sem]
  (repeat refine sdC ?_);refine zi (i+1) (by omega) (by omega) (Sub.of0 [] rfl rfl ?_ ?_)
  ·simp only [go_sem];simp
  ·simp only [go_sem]
 ·simp only [go_sem];refine AXa.go mixed (zh) (zg) (by kernel_rfl) ?_;simp only [go_sem]
noncomputable def cStrsS:List V→Option PR:=zH (fun l:List Str=>[.fs (strs l) l.length,.fs (strs l) l.length]) (fun l=>l.length≤1000000) fun _=>.ret (.bool true)
theorem zgc(l:List Str)(hl:l.length≤1000000):cStrsS [.fs (strs l) l.length,.fs (strs l) l.length]=some (.ret (.bool true)):=
 zn (pat:=fun l:List Str=>[V.fs (strs l) l.length,.fs (strs l) l.length]) (fun x y h=>by simp at h;exact zco h.1) l hl
theorem zzC:∀ args r,cStrsS args=some r→PCall Tryz.prog 41 args r:=zo strsS_ok
structure Fit0(m:Mdl):Prop where
 tl:m.tags.length≤1000000
 wl:m.words.length≤1000000
 nl:m.next.length≤1000000
 el:m.emit.length≤1000000
 nr:∀ r∈m.next,r.length≤1000000
 er:∀ r∈m.emit,r.length≤1000000
set_option maxHeartbeats 4000000 in
theorem sameM_ok(m:Mdl)(h:Fit0 m):PCall Tryz.prog 15 [mdlV m,mdlV m] (.ret (.bool true)):=by
 have hΓ:=zf zzC zh;obtain⟨tl,wl,nl,el,nr,er⟩:=h;obtain⟨T,W,N,E⟩:=m;dsimp only at tl wl nl el nr er;have i1:=zgc T tl;have i2:=zgc W wl;have pM:=zhy ⟨T,W,N,E⟩;refine PCall.walk (rs:=[.tmp 4]) [0,1,2,3,4,5,6,38,43,57,62,76] [28] mixed (hΓ) (zg) call15 Tryz.func15 rfl Tryz.ntmps15 rfl (by kernel_rfl) (by simp) (by simp [push_cast,zhy]) ?_;simp (disch:=first|assumption|(push_cast<;>omega)|omega) only [go_sem,mdlV,i1,i2];have pM4:∀ x∈[V.fs (strs T) T.length,.fs (strs W) W.length,.fs (zbM N) N.length,.fs (zbM E) E.length],Ab.Pure x:=(zad _).1 pM;refine AXs.loop mixed (hΓ) (zg) (fun i:Nat=>[(2,.fp [.fs (strs T) T.length,.fs (strs W) W.length,.fs (zbM N) N.length,.fs (zbM E) E.length]),(3,.fp [.fs (strs T) T.length,.fs (strs W) W.length,.fs (zbM N) N.length,.fs (zbM E) E.length]),(5,.int .i64 i)]) (fun _=>⟨[],0⟩) (fun i=>i≤N.length) (fun i=>N.length - i) 0 (by kernel_rfl) (Nat.zero_le _) (Sub.of0 [] rfl rfl ?_ ?_) ?_
 ·simp only [go_sem];exact pM4
 ·simp only [go_sem]
 intro i h1;simp (disch:=first|assumption|(push_cast<;>omega)|omega) only [go_sem];refine AXc.introP (fun h3=>?_) (fun h3=>?_)
 ·have hi:i<N.length:=by omega
  have at1:=zq6 N i hi;have is:=zgc (nthR N i) (nr _ (rowR.nth_mem hi));simp (disch:=first|assumption|(push_cast<;>omega)|omega) only [go_sem,at1,is]
  (repeat refine sdC ?_);try simp (disch:=first|assumption|(push_cast<;>omega)|omega) only [go_sem]
  refine zi (i+1) (by omega) (by omega) (Sub.of0 [] rfl rfl ?_ ?_)
  ·simp only [go_sem];exact⟨pM4,pM4,by simp⟩
  ·simp only [go_sem]
 obtain rfl:i=N.length:=by omega
 simp only [go_sem];refine AXa.go mixed (hΓ) (zg) (by kernel_rfl) ?_;simp only [go_sem];refine AXs.loop mixed (hΓ) (zg) (fun i:Nat=>[(2,.fp [.fs (strs T) T.length,.fs (strs W) W.length,.fs (zbM N) N.length,.fs (zbM E) E.length]),(3,.fp [.fs (strs T) T.length,.fs (strs W) W.length,.fs (zbM N) N.length,.fs (zbM E) E.length]),(6,.int .i64 i)]) (fun _=>⟨[],0⟩) (fun i=>i≤E.length) (fun i=>E.length - i) 0 (by kernel_rfl) (Nat.zero_le _) (Sub.of0 [] rfl rfl ?_ ?_) ?_
 ·simp only [go_sem];exact pM4
 ·simp only [go_sem]
 intro i h1;simp (disch:=first|assumption|(push_cast<;>omega)|omega) only [go_sem];refine AXc.introP (fun h3=>?_) (fun h3=>?_)
 ·have hi:i<E.length:=by omega
  have at1:=zq6 E i hi;have is:=zgc (nthR E i) (er _ (rowR.nth_mem hi));simp (disch:=first|assumption|(push_cast<;>omega)|omega) only [go_sem,at1,is]
  (repeat refine sdC ?_);try simp (disch:=first|assumption|(push_cast<;>omega)|omega) only [go_sem]
  refine zi (i+1) (by omega) (by omega) (Sub.of0 [] rfl rfl ?_ ?_)
  ·simp only [go_sem];exact⟨pM4,pM4,by simp⟩
  ·simp only [go_sem]
 obtain rfl:i=E.length:=by omega
 simp only [go_sem];refine AXa.go mixed (hΓ) (zg) (by kernel_rfl) ?_;simp only [go_sem]
noncomputable def cSameM:List V→Option PR:=zH (fun m:Mdl=>[mdlV m,mdlV m]) Fit0 fun _=>.ret (.bool true)
theorem zzE(m:Mdl)(h:Fit0 m):cSameM [mdlV m,mdlV m]=some (.ret (.bool true)):=zn (pat:=fun m:Mdl=>[mdlV m,mdlV m]) (fun x y h=>mdlV_inj (by simp only [List.cons.injEq,and_true]at h;exact h.1)) m h
theorem zzD:∀ args r,cSameM args=some r→PCall Tryz.prog 15 args r:=zo sameM_ok
theorem zxj(all k:Str)(ns:List Nat):∀ j,(outR all k ns j).2.length≤j
 |0=>Nat.le_refl _
 |j+1=>by
  have:=zxj all k ns j;unfold outR;split
  ·omega
  ·split
   ·simp
   ·simp;omega
theorem zq7(k:Str)(len s:Nat)(ns:List Nat):(zeB k len s ns).2.length≤ns.length:=by
 unfold zeB;split
 ·simp
 ·split
  ·simp
  ·exact zxj ..
theorem est_fit(A B:List Ent)(k:Str):Fit0 (estR A B k).1∧((estR A B k).2=0∨(estR A B k).2=1∨(estR A B k).2=2):=by
 have h0:Fit0 noM:=⟨by decide,by decide,by decide,by decide,fun r h=>(nomatch h),fun r h=>(nomatch h)⟩;unfold estR;split
 ·split
  ·exact⟨h0,.inr (.inr rfl)⟩
  ·rename_i hbig;unfold estG;split
   ·refine⟨⟨by dsimp only;omega,by dsimp only;omega,by simp;omega,by simp;omega,fun r hr=>?_,fun r hr=>?_⟩,.inl rfl⟩
    ·obtain⟨j,_,rfl⟩:=List.mem_map.1 hr;unfold rowN;refine Nat.le_trans (zq7 ..) ?_;rw [zeV];omega
    ·obtain⟨j,_,rfl⟩:=List.mem_map.1 hr;unfold rowE;refine Nat.le_trans (zq7 ..) ?_;rw [zeV];omega
   ·exact⟨h0,.inr (.inr rfl)⟩
 ·exact⟨h0,.inr (.inl rfl)⟩
end Go.Proofs

namespace Go.Proofs
open Go.Ab Go.Cnt
def nameL(s:Str):Bool:=decide (s.length≤100)
def entL(e:Ent):Bool:=nameL e.1.1&&nameL e.1.2
def zeG(l:List Ent):Bool:=decide (l.length≤600)&&l.all entL
def nthL(ls:List (List Ent))(i:Nat):List Ent:=ls.getD i []
def zc7(ls:List (List Ent)):List V:=ls.map fun l=>.fs (cnts l) l.length
theorem zn9:∀(ls:List (List Ent)) (i:Nat),i<ls.length→(zc7 ls).drop i=.fs (cnts (nthL ls i)) (nthL ls i).length::zc7 (ls.drop (i+1))
 |[],_,h=>by simp at h
 |l::ls,0,_=>rfl
 |l::ls,i+1,h=>by have:=zn9 ls i (by simpa using h);simpa [zc7,nthL] using this
theorem zcY(ls:List (List Ent)):∀ x∈zc7 ls,Pure x:=fun x hx=>by obtain⟨l,_,rfl⟩:=List.mem_map.1 hx;exact .fs (zcv l)
theorem zm4(ls:List (List Ent)):(∀ x∈zc7 ls,Pure x)↔True:=⟨fun _=>trivial,fun _=>zcY ls⟩
theorem allL_t {p:List Ent→Bool}:∀ {ls:List (List Ent)},(∀ i,i<ls.length→p (nthL ls i)=true)→ls.all p=true
 |[],_=>rfl
 |e::l,h=>by rw [List.all_cons,allL_t (ls:=l) fun i hi=>h (i+1) (by simpa using hi)];have:=h 0 (by simp);simpa [nthL] using this
theorem nthL_mem {ls:List (List Ent)}{i:Nat}(h:i<ls.length):nthL ls i∈ls:=by unfold nthL;rw [List.getD_eq_getElem?_getD,List.getElem?_eq_getElem h];exact List.getElem_mem h
theorem allL_f {p:List Ent→Bool}{ls:List (List Ent)}{i:Nat}(hi:i<ls.length)(h:p (nthL ls i)=false):ls.all p=false:=by
 cases e:ls.all p with
 |false=>rfl
 |true=>rw [List.all_eq_true.1 e _ (nthL_mem hi)]at h;cases h
set_option maxHeartbeats 4000000 in
theorem large_ok(ls:List (List Ent))(hls:ls.length≤1000):PCall Tryz.prog 6 [.fs (zc7 ls) ls.length] (.ret (.bool (!ls.all zeG))):=by
 refine PCall.walk (rs:=[.tmp 2]) [0,2,3,4,8,16,23,47] [] mixed (zh) (zg) call6 Tryz.func6 rfl Tryz.ntmps6 rfl (by kernel_rfl) (by simp) (by simp [push_cast,zm4]) ?_;simp (disch:=first|assumption|(push_cast<;>omega)|omega) only [go_sem];refine AXs.loop mixed (zh) (zg) (fun i:Nat=>[(0,.fs (zc7 ls) ls.length),(3,.int .i64 i)]) (fun _=>⟨[],0⟩) (fun i=>i≤ls.length∧∀ j,j<i→zeG (nthL ls j)=true) (fun i=>ls.length - i) 0 (by kernel_rfl) ⟨Nat.zero_le _,fun j hj=>by omega⟩ (Sub.of0 [] rfl rfl ?_ ?_) ?_
 ·simp only [go_sem];exact zcY ls
 ·simp only [go_sem]
 rintro i ⟨h1,h2⟩;simp only [go_sem];refine AXc.introP (fun h3=>?_) (fun h3=>?_)
 ·have hi:i<ls.length:=by omega
  have at1:=zn9 ls i hi;simp (disch:=first|assumption|(push_cast<;>omega)|omega) only [go_sem,at1];refine⟨⟨by omega,by omega⟩,by omega,?_⟩;refine AXc.introP (fun h4=>?_) (fun h4=>?_)
  ·simp (disch:=first|assumption|(push_cast<;>omega)|omega) only [go_sem];have:zeG (nthL ls i)=false:=by unfold zeG;rw [decide_eq_false (by omega)];rfl
   rw [allL_f hi this];rfl
  ·have h4':(nthL ls i).length≤600:=by omega
   simp (disch:=first|assumption|(push_cast<;>omega)|omega) only [go_sem];refine AXs.loop mixed (zh) (zg) (fun j:Nat=>[(0,.fs (zc7 ls) ls.length),(3,.int .i64 i),(4,.int .i64 j)]) (fun _=>⟨[],0⟩) (fun j=>j≤(nthL ls i).length∧∀ k,k<j→entL (nthE (nthL ls i) k)=true) (fun j=>(nthL ls i).length - j) 0 (by kernel_rfl) ⟨Nat.zero_le _,fun j hj=>by omega⟩ (Sub.of0 [] rfl rfl ?_ ?_) ?_
   ·simp only [go_sem];exact zcY ls
   ·simp only [go_sem]
   rintro j ⟨h5,h6⟩;simp (disch:=first|assumption|(push_cast<;>omega)|omega) only [go_sem,at1];refine⟨⟨by omega,by omega⟩,by omega,?_⟩;refine AXc.introP (fun h7=>?_) (fun h7=>?_)
   ·have hj:j<(nthL ls i).length:=by omega
    have at2:=zci (nthL ls i) j hj;simp (disch:=first|assumption|(push_cast<;>omega)|omega) only [go_sem,at1,at2]
    (repeat refine sdC ?_);have hb:(decide (100<((nthE (nthL ls i) j).1.1.length:Int))||decide (100<((nthE (nthL ls i) j).1.2.length:Int)))= !entL (nthE (nthL ls i) j):=by unfold entL nameL;by_cases k1:(nthE (nthL ls i) j).1.1.length≤100<;>by_cases k2:(nthE (nthL ls i) j).1.2.length≤100<;>simp [k1,k2]<;>omega
    rw [hb];cases hg:entL (nthE (nthL ls i) j)with
    |false=>
     simp (disch:=first|assumption|(push_cast<;>omega)|omega) only [go_sem];have:zeG (nthL ls i)=false:=by unfold zeG;rw [zvB hj hg,Bool.and_false]
     rw [allL_f hi this];rfl
    |true=>
     simp (disch:=first|assumption|(push_cast<;>omega)|omega) only [go_sem];refine zi (j+1) ⟨by omega,fun k hk=>?_⟩ (by omega) (Sub.of0 [] rfl rfl ?_ ?_)
     ·by_cases hkj:k<j
      ·exact h6 k hkj
      ·obtain rfl:k=j:=by omega
       exact hg
     ·simp only [go_sem];refine⟨zcY ls,?_⟩;simp
     ·simp only [go_sem]
   ·simp only [go_sem];refine AXa.go mixed (zh) (zg) (by kernel_rfl) ?_;simp (disch:=first|assumption|(push_cast<;>omega)|omega) only [go_sem];refine zi (i+1) ⟨by omega,fun k hk=>?_⟩ (by omega) (Sub.of0 [] rfl rfl ?_ ?_)
    ·by_cases hki:k<i
     ·exact h2 k hki
     ·obtain rfl:k=i:=by omega
      unfold zeG;rw [decide_eq_true h4',zvA fun m hm=>h6 m (by omega)];rfl
    ·simp only [go_sem];refine⟨zcY ls,?_⟩;simp
    ·simp only [go_sem]
 ·have:i=ls.length:=by omega
  subst this;simp only [go_sem];refine AXa.go mixed (zh) (zg) (by kernel_rfl) ?_;simp (disch:=first|assumption|(push_cast<;>omega)|omega) only [go_sem];rw [allL_t fun j hj=>h2 j hj];rfl
noncomputable def cLarge:List V→Option PR:=zH (fun ls:List (List Ent)=>[.fs (zc7 ls) ls.length]) (fun ls=>ls.length≤1000) fun ls=>.ret (.bool (!ls.all zeG))
theorem zks:∀ {l r:List (List Ent)},zc7 l=zc7 r→l=r
 |[],[],_=>rfl
 |[],e::r,h=>by simp [zc7]at h
 |e::l,[],h=>by simp [zc7]at h
 |e::l,e'::r,h=>by simp only [zc7,List.map_cons,List.cons.injEq,V.fs.injEq]at h;rw [zbp h.1.1,zks h.2]
theorem zvi(a b:List Ent):cLarge [.fs [.fs (cnts a) a.length,.fs (cnts b) b.length] 2]=some (.ret (.bool (!(zeG a&&zeG b)))):=by have:=zn (pat:=fun ls:List (List Ent)=>[.fs (zc7 ls) ls.length]) (cond:=fun ls=>ls.length≤1000) (res:=fun ls=>.ret (.bool (!ls.all zeG))) (fun x y h=>by simp at h;exact zks h.1) [a,b] (by simp);simp only [List.all_cons,List.all_nil,Bool.and_true]at this;exact this
theorem zAl:∀ args r,cLarge args=some r→PCall Tryz.prog 6 args r:=zo fun ls h=>large_ok ls h
attribute [go_sem] zvi
theorem znp {l:List Ent}(h:zeG l=true):l.length≤600∧zaG l:=by unfold zeG at h;simp only [Bool.and_eq_true,decide_eq_true_eq]at h;refine⟨h.1,fun e he=>?_⟩;have:=List.all_eq_true.1 h.2 e he;unfold entL nameL at this;simp only [Bool.and_eq_true,decide_eq_true_eq]at this;exact⟨by omega,by omega⟩
end Go.Proofs
