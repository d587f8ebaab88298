/- Numbers and their texts: what is read from what was written; when a sum is nothing. -/
import Derived.Test.YtfilkkmcagndlaaGreatDoorAbIn
import Derived.Test.YtfilkkmcagndlaaGreatDoorQRat5
import Derived.Test.YtfilkkmcagndlaaGreatDoorPRow
set_option linter.all false
namespace Go.Proofs
open Go.Ab Go.Pl
theorem decHead {n:Nat}:(dec n).getD 0 0≠45:=by
 have h:=zcQ n;have hp:=zdZ n;intro e;have hm:(dec n).getD 0 0∈dec n:=by rw [List.getD_eq_getElem?_getD,List.getElem?_eq_getElem hp];exact List.getElem_mem hp
 have:=zbG (List.all_eq_true.1 h _ hm);rw [e]at this;revert this;decide
theorem decNo(n:Nat):∀ x∈dec n,(x==47)=false:=fun x hx=>by
 have:=zbG (List.all_eq_true.1 (zcQ n) x hx);cases e:x==47 with
 |false=>rfl
 |true=>
  have:x=47:=by simpa using e
  subst this;revert this;decide
theorem ziV(neg:Bool)(n d:Nat)(hn:neg=true→n≠0):zB (ratT neg n d)=(neg,dec n,if d=1 then [49]else dec d,decide (d≠1)):=by
 have hr:∀(y:List UInt8),(if neg=true∧n≠0 then [45]else [])++y=if neg=true then 45::y else y:=fun y=>by
  cases neg with
  |true=>rw [if_pos ⟨rfl,hn rfl⟩,if_pos rfl];rfl
  |false=>rw [if_neg (by simp),if_neg (by simp)];rfl
 have ht:ratT neg n d=if neg=true then 45::(dec n++(if d=1 then []else 47::dec d))else dec n++(if d=1 then []else 47::dec d):=by unfold ratT;rw [List.append_assoc,hr]
 have h0:(dec n++(if d=1 then []else 47::dec d)).getD 0 0=(dec n).getD 0 0:=by rw [List.getD_eq_getElem?_getD,List.getElem?_append_left (zdZ n),List.getD_eq_getElem?_getD]
 have hneg:decide ((ratT neg n d).getD 0 0=45)=neg:=by
  rw [ht];cases neg with
  |true=>rw [if_pos rfl];rfl
  |false=>rw [if_neg (by simp),h0];exact decide_eq_false decHead
 have hrest:(if neg=true then(ratT neg n d).drop 1 else ratT neg n d)=dec n++(if d=1 then []else 47::dec d):=by
  rw [ht];cases neg with
  |true=>rw [if_pos rfl,if_pos rfl];rfl
  |false=>rw [if_neg (by simp),if_neg (by simp)]
 have hfn:∀ l:List UInt8,(∀ x∈l,(x==47)=false)→∀ r,(l++47::r).findIdx? (· ==47)=some l.length:=by
  intro l;induction l with
  |nil=>intro _ r;simp [List.findIdx?_cons]
  |cons x l ih=>intro h r;rw [List.cons_append,List.findIdx?_cons];simp only [h x (List.mem_cons_self ..),Bool.false_eq_true,if_false,ih (fun y hy=>h y (List.mem_cons_of_mem _ hy)) r];rfl
 unfold zB;simp only [hneg,hrest];by_cases hd:d=1
 ·have:(dec n++(if d=1 then []else 47::dec d)).findIdx? (· ==47)=none:=by
   rw [if_pos hd,List.append_nil,List.findIdx?_eq_none_iff]
   exact decNo n
  simp only [this]
  rw [if_pos hd,if_pos hd,List.append_nil]
  simp [hd]
 ·have:(dec n++(if d=1 then []else 47::dec d)).findIdx? (· ==47)=some (dec n).length:=by
   rw [if_neg hd];exact hfn _ (decNo n) _
  simp only [this]
  rw [if_neg hd,if_neg hd,List.take_left]
  simp [hd]
theorem zgd {n:Nat}(h:(dec n).length≤400):zaG (dec n)=true:=by rw [shortN_iff,zf8];exact⟨by simp;omega,h⟩
theorem zmC {neg:Bool}{n d:Nat}(hn:neg=true→n≠0)(hd:0<d)(hg:Nat.gcd n d=1)(ln:(dec n).length≤400)(ld:(dec d).length≤400):ratP (ratT neg n d)=some (neg,n,d):=by
 unfold ratP;rw [ziV neg n d hn];have hv:valD (if d=1 then [49]else dec d)=d:=by
  split
  ·rename_i h;rw [h];rfl
  ·exact zah d
 have h1:dec 1=[49]:=rfl;have hs:zaG (if d=1 then [49]else dec d)=true:=by
  split
  ·rw [←h1];exact zgd (by decide)
  ·exact zgd ld
 have hok:zbP neg (dec n) (if d=1 then [49]else dec d) (decide (d≠1))=true:=by
  unfold zbP;rw [zgd ln,hs,hv,zah];have h2:(neg&&decide (dec n=[48]))=false:=by
   cases hneg:neg with
   |false=>rfl
   |true=>have:=hn hneg;simp only [Bool.true_and,decide_eq_false_iff_not];intro e;exact this (dec_is_zero.1 e)
  have h3:(decide (d≠1)&&(decide ((if d=1 then [49]else dec d)=[48])||decide ((if d=1 then [49]else dec d)=[49])))=false:=by
   by_cases h:d=1
   ·simp [h]
   ·rw [if_neg h];have e1:¬dec d=[48]:=fun e=>by have:=dec_is_zero.1 e;omega
    have e2:¬dec d=[49]:=fun e=>h (zX (e.trans h1.symm));simp [e1,e2]
  rw [h2,h3];simp only [Bool.true_and,Bool.not_false,Bool.and_true,decide_eq_true_eq];exact hg
 rw [if_pos hok];simp only [zah,hv]
theorem zcJ {n:Nat}(h:(dec n).length≤400):ratP (dec n)=some (false,n,1):=by
 have:=zmC (neg:=false) (n:=n) (d:=1) (fun h=>by cases h) (by omega) (Nat.gcd_one_right n) h (by decide);have e:ratT false n 1=dec n:=by unfold ratT;simp
 rwa [e]at this
theorem zfG(m:Nat)(d:Nat)(hd:0<d):((resP (mkV false m d)).2≠0→(resP (mkV false m d)).2=2)∧((resP (mkV false m d)).2=0→ratP (resP (mkV false m d)).1=some (false,m / Nat.gcd m d,d / Nat.gcd m d)∧0<d / Nat.gcd m d):=by
 unfold mkV;split
 ·rw [zg4];exact⟨fun _=>rfl,fun h=>by cases h⟩
 ·rename_i h;rw [zeO];have h':¬(400<(dec (m / Nat.gcd m d)).length∨400<(dec (d / Nat.gcd m d)).length):=by simpa [zdO] using h
  have hg:0<Nat.gcd m d:=Nat.gcd_pos_of_pos_right m hd;have hdg:0<d / Nat.gcd m d:=Nat.div_pos (Nat.le_of_dvd hd (Nat.gcd_dvd_right m d)) hg;refine⟨fun h=>absurd rfl h,fun _=>⟨?_,hdg⟩⟩;exact zmC (fun h=>by cases h) hdg (Nat.coprime_div_gcd_div_gcd hg) (by omega) (by omega)
theorem zg1(a b:Nat):sumS false a false b=(false,a+b):=rfl
theorem ze1 {k:List UInt8}(hp:(ratP k).isSome=true)(hk:k.head? ≠some 45):∃ n d,ratP k=some (false,n,d)∧0<d:=by
 cases h:ratP k with
 |none=>rw [h]at hp;cases hp
 |some p=>
  obtain⟨q,n,d⟩:=p;have hd:=(za2 h).1;have hq:q=false:=by
   unfold ratP at h;split at h
   case isFalse=>cases h
   case isTrue _=>
    simp only [Option.some.injEq,Prod.mk.injEq]at h
    rw [←h.1]
    unfold zB
    have hne:k≠[]:=by rintro rfl;rename_i hk2;revert hk2;decide
    cases k with
    |nil=>exact absurd rfl hne
    |cons c k'=>
     have hc:c≠45:=fun e=>hk (by rw [e];rfl)
     have:decide ((c::k').getD 0 0=45)=false:=decide_eq_false (by simpa using hc)
     simp only [this]
     split<;>rfl
  subst hq;exact⟨n,d,rfl,hd⟩
theorem ratP_0:ratP [48]=some (false,0,1):=by have:=zcJ (n:=0) (by decide);rwa [zrt]at this
theorem neg_law {k:List UInt8}(hp:(ratP k).isSome=true):zbK k [48]<0↔k.head? =some 45:=by
 cases h:ratP k with
 |none=>rw [h]at hp;cases hp
 |some p=>
  obtain⟨q,n,d⟩:=p;rw [zg8 h ratP_0];have hd:=(za2 h).1;unfold ratP at h;split at h
  case isFalse=>cases h
  case isTrue hk=>
   simp only [Option.some.injEq,Prod.mk.injEq]at h
   have hne:k≠[]:=by rintro rfl;revert hk;decide
   have hq:q=decide (k.getD 0 0=45):=by rw [←h.1];unfold zB;simp only;split<;>rfl
   have hhd:k.head? =some 45↔k.getD 0 0=45:=by
    cases k with
    |nil=>exact absurd rfl hne
    |cons c k'=>simp
   rw [hhd]
   by_cases hc:k.getD 0 0=45
   ·have hqt:q=true:=by rw [hq];exact decide_eq_true hc
    have hn0:n≠0:=by
     rintro rfl;simp only [zbP,Bool.and_eq_true]at hk;have h3:=hk.1.1.2;rw [h.1,hqt]at h3;have hv:=hk.1.1.1.1;have e:(zB k).2.1=[48]:=by have hval:valD (zB k).2.1=0:=h.2.1;have:=zak (shortN_iff.1 hv).1;rw [hval]at this;exact this.symm
     rw [e]at h3;simp at h3
    have:sumS q (n*1) (!false) (0*d)=(true,n):=by rw [hqt];simp [sumS]
    rw [this]
    simp only [hn0,if_false,if_true]
    exact⟨fun _=>hc,fun _=>by decide⟩
   ·have hqf:q=false:=by rw [hq];exact decide_eq_false hc
    have:(sumS q (n*1) (!false) (0*d))=(false,n):=by rw [hqf];simp [sumS]
    rw [this]
    constructor
    ·intro h;split at h<;>simp at h
    ·intro h;exact absurd h hc
theorem zmt {k:List UInt8}(hp:(ratP k).isSome=true)(hk:k.head? ≠some 45){len s:Nat}(hl:0<len)(ll:len≤1000000)(ls:s≤1000000000000):
 ((resP (zK k (dec len))).2≠0→(resP (zK k (dec len))).2=2)∧
 ((resP (zK k (dec len))).2=0→((resP (zG (resP (zK k (dec len))).1 (dec s))).2≠0→(resP (zG (resP (zK k (dec len))).1 (dec s))).2=2)∧
  ((resP (zG (resP (zK k (dec len))).1 (dec s))).2=0→∃ n2 d2,ratP (resP (zG (resP (zK k (dec len))).1 (dec s))).1=some (false,n2,d2)∧0<d2∧(n2=0→s=0∧ratP k=some (false,0,1)))):=by
 obtain⟨n,d,hr,hd⟩:=ze1 hp hk
 have l1:(dec len).length≤400:=Nat.le_trans (zax (k:=7) (by omega) (by omega)) (by omega)
 have l2:(dec s).length≤400:=Nat.le_trans (zax (k:=13) (by omega) (by omega)) (by omega)
 have hm:zK k (dec len)=mkV false (n*len) d:=by rw [zhQ hr (zcJ l1)];simp
 obtain⟨m1,m2⟩:=zfG (n*len) d hd
 rw [hm]
 refine⟨m1,fun h0=>?_⟩
 obtain⟨q1,q2⟩:=m2 h0
 have ha:zG (resP (mkV false (n*len) d)).1 (dec s)=mkV false (n*len / Nat.gcd (n*len) d+s*(d / Nat.gcd (n*len) d)) (d / Nat.gcd (n*len) d):=by rw [zdg q1 (zcJ l2),zg1];simp
 rw [ha]
 obtain⟨a1,a2⟩:=zfG (n*len / Nat.gcd (n*len) d+s*(d / Nat.gcd (n*len) d)) (d / Nat.gcd (n*len) d) q2
 refine⟨a1,fun h=>?_⟩
 obtain⟨b1,b2⟩:=a2 h
 refine⟨_,_,b1,b2,fun hz=>?_⟩
 generalize hG:Nat.gcd (n*len) d=G at*
 have hGp:0<G:=by rw [←hG];exact Nat.gcd_pos_of_pos_right _ hd
 have hsum:n*len / G+s*(d / G)=0:=by
  generalize n*len / G+s*(d / G)=X at hz ⊢;have hg2:0<Nat.gcd X (d / G):=Nat.gcd_pos_of_pos_right _ q2;rcases Nat.eq_zero_or_pos X with h|h
  ·exact h
  ·have:=Nat.div_pos (Nat.le_of_dvd h (Nat.gcd_dvd_left X (d / G))) hg2;exact absurd hz (Nat.ne_of_gt this)
 obtain⟨h1,h2⟩:=Nat.add_eq_zero_iff.1 hsum
 have hs0:s=0:=by
  rcases Nat.mul_eq_zero.1 h2 with h|h
  ·exact h
  ·omega
 have hn0:n*len=0:=by
  rcases Nat.eq_zero_or_pos (n*len)with h|h
  ·exact h
  ·have:=Nat.div_pos (Nat.le_of_dvd h (by rw [←hG];exact Nat.gcd_dvd_left ..)) hGp;exact absurd h1 (Nat.ne_of_gt this)
 have hnn:n=0:=by
  rcases Nat.mul_eq_zero.1 hn0 with h|h
  ·exact h
  ·omega
 subst hnn
 have hg1:=(za2 hr).2.1
 rw [Nat.gcd_zero_left]at hg1
 rw [hr,hg1]
 exact⟨hs0,rfl⟩
theorem zqj {k:List UInt8}(hr:ratP k=some (false,0,1)):pR [48] k 0=([48],0):=by
 have h:zG (dec 0) k=mkV false 0 1:=by rw [zdg (zcJ (n:=0) (by decide)) hr,zg1]
 have hm:mkV false 0 1=.tup [.str [48],.int .i64 0]:=by unfold mkV;rw [if_neg (by decide)];rfl
 unfold pR;rw [h,hm,zeO];simp
theorem pR_err {k:List UInt8}(hp:(ratP k).isSome=true)(hk:k.head? ≠some 45){all:List UInt8}{n2 d2:Nat}(ha:ratP all=some (false,n2,d2))(c:Nat)(hc:c≤1000000000):(pR all k c).2≠0→(pR all k c).2=2:=by
 obtain⟨n,d,hr,hd⟩:=ze1 hp hk;have l2:(dec c).length≤400:=Nat.le_trans (zax (k:=10) (by omega) (by omega)) (by omega);have hadd:zG (dec c) k=mkV false (c*d+n*1) (1*d):=by rw [zdg (zcJ l2) hr,zg1]
 obtain⟨a1,a2⟩:=zfG (c*d+n*1) (1*d) (by omega);unfold pR;rw [hadd];split
 ·rename_i h;obtain⟨b1,b2⟩:=a2 h.1;have hn2:n2≠0:=by rintro rfl;exact h.2 (zhO ha)
  have hd2:=(za2 ha).1;generalize (c*d+n*1) / Nat.gcd (c*d+n*1) (1*d)=x at b1;generalize 1*d / Nat.gcd (c*d+n*1) (1*d)=y at b1 b2;rw [zfy b1 ha,if_neg hn2];exact(zfG (x*d2) (y*n2) (Nat.mul_pos b2 (by omega))).1
 ·exact a1
theorem zmJ {all k:List UInt8}{ns:List Nat}(h:∀ j,(pR all k (ns.getD j 0)).2≠0→(pR all k (ns.getD j 0)).2=2):∀ j,(outR all k ns j).1≠0→(outR all k ns j).1=2
 |0,h0=>absurd rfl h0
 |j+1,h0=>by
  unfold outR at h0 ⊢;split
  ·rename_i h1;rw [if_pos h1]at h0;exact zmJ h j h0
  ·rename_i h1;rw [if_neg h1]at h0;split
   ·rename_i h2;exact h j h2
   ·rename_i h2;rw [if_neg h2]at h0;exact absurd rfl h0
theorem zwB {k:List UInt8}(hp:(ratP k).isSome=true)(hk:k.head? ≠some 45){len s:Nat}(hl:0<len)(ll:len≤1000000)(ls:s≤1000000000000){ns:List Nat}(hn:∀ j,ns.getD j 0≤1000000000):(zcL k len s ns).1≠0→(zcL k len s ns).1=2:=by
 obtain⟨f1,f2⟩:=zmt hp hk hl ll ls;unfold zcL;split
 ·rename_i h;exact fun _=>f1 h
 ·rename_i h;obtain⟨g1,g2⟩:=f2 (by simpa using h);split
  ·rename_i h2;exact fun _=>g1 h2
  ·rename_i h2;obtain⟨n2,d2,hr,_⟩:=g2 (by simpa using h2);exact zmJ (fun j=>pR_err hp hk hr _ (hn j)) _
end Go.Proofs

namespace Go.Proofs
open Go.Ab Go.Cnt Go.Pl
theorem zxR(T:List Str)(b:Str):∀ j,(∃ p,p<j∧T.getD p []=b)→ixU T b j<j∧T.getD (ixU T b j) []=b
 |0,⟨p,hp,_⟩=>by omega
 |j+1,⟨p,hp,e⟩=>by
  unfold ixU;split
  ·rename_i h;exact⟨by omega,h⟩
  ·rename_i h;have hpj:p≠j:=by rintro rfl;exact h e
   have:=zxR T b j ⟨p,by omega,e⟩;exact⟨by omega,this.2⟩
theorem zrd(T:List Str)(b:Str):∀ j,(∀ p,p<j→T.getD p []≠b)→ixU T b j=T.length
 |0,_=>rfl
 |j+1,h=>by unfold ixU;rw [if_neg (h j (by omega)),zrd T b j fun p hp=>h p (by omega)]
theorem zjQ {T:List Str}(h:IncS T):∀ i j,i<j→j<T.length→T.getD i []≠T.getD j []:=fun i j hij hj e=>by have:=List.pairwise_iff_getElem.1 h i j (by omega) hj hij;rw [List.getD_eq_getElem?_getD,List.getD_eq_getElem?_getD,List.getElem?_eq_getElem hj,List.getElem?_eq_getElem (by omega)]at e;simp only [Option.getD_some]at e;rw [e,zbF]at this;cases this
theorem ixU_at {T:List Str}(hT:IncS T)(h0:[]∉T){b:Str}(hb:b∈T∨b=[]){j:Nat}(hj:j≤T.length):ixU T b T.length=j↔(T++[[]]).getD j []=b:=by
 have nz:∀ p,p<T.length→T.getD p []≠[]:=fun p hp e=>h0 (by rw [←e];exact zij hp);by_cases hm:b∈T
 ·obtain⟨p,hp,rfl⟩:=List.mem_iff_getElem.1 hm;have hpe:T.getD p []=T[p]:=by rw [List.getD_eq_getElem?_getD,List.getElem?_eq_getElem hp];rfl
  obtain⟨k1,k2⟩:=zxR T T[p] T.length ⟨p,hp,hpe⟩;constructor
  ·intro e;rw [←e,getD_in T k1,k2]
  ·intro e;have hjl:j<T.length:=by
    rcases Nat.lt_or_ge j T.length with h|h
    ·exact h
    ·obtain rfl:j=T.length:=by omega
     rw [zrg, ←hpe]at e;exact absurd e.symm (nz p hp)
   rw [getD_in T hjl]at e;rcases Nat.lt_trichotomy (ixU T T[p] T.length) j with h|h|h
   ·exact absurd (k2.trans e.symm) (zjQ hT _ _ h hjl)
   ·exact h
   ·exact absurd (e.trans k2.symm) (zjQ hT _ _ h k1)
 ·have hbe:=hb.resolve_left hm;subst hbe;rw [zrd T [] T.length nz];constructor
  ·intro e;rw [←e,zrg]
  ·intro e;rcases Nat.lt_or_ge j T.length with h|h
   ·rw [getD_in T h]at e;exact absurd e (nz j h)
   ·omega
theorem zql {l:List Ent}(hs:zdd l){T:List Str}(hT:IncS T)(h0:[]∉T)(hB:∀ e∈l,e.1.2∈T∨e.1.2=[])(a:Str){j:Nat}(hj:j≤T.length):∀ i,i≤l.length→(vecU a T l i).getD j 0=(tot (l.take i) (a,(T++[[]]).getD j [])).toNat
 |0,_=>by show (List.replicate (T.length+1) 0).getD j 0=0;rw [List.getD_eq_getElem?_getD,List.getElem?_replicate];split<;>rfl
 |i+1,hi=>by
  have ih:=zql hs hT h0 hB a hj i (by omega);have hm:=zfB (show i<l.length by omega);have q:=hs _ hm;have hb:=hB _ hm;have hn:0≤tot (l.take i) (a,(T++[[]]).getD j []):=zsg (fun e he=>(hs e (List.mem_of_mem_take he)).1) _;rw [zcg l i (by omega),zga,zvA];show (zmb a T (vecU a T l i) (nthE l i)).getD j 0=_;have hlen:=zdx a T l i;unfold zmb;by_cases ha:(nthE l i).1.1=a
  ·rw [if_pos ha];by_cases hk:ixU T (nthE l i).1.2 T.length=j
   ·have e:=(ixU_at hT h0 hb hj).1 hk;rw [hk,List.getD_eq_getElem?_getD,List.getElem?_set,if_pos rfl,if_pos (by omega)];simp only [Option.getD_some];rw [if_pos (by rw [e, ←ha]),ih];omega
   ·have e:¬(nthE l i).1=(a,(T++[[]]).getD j []):=fun e=>hk ((ixU_at hT h0 hb hj).2 (by rw [e]));rw [List.getD_eq_getElem?_getD,List.getElem?_set,if_neg hk, ←List.getD_eq_getElem?_getD,if_neg e,ih];omega
  ·rw [if_neg ha,if_neg (fun e=>ha (by rw [e])),ih];omega
theorem cnt_law {l:List Ent}(hd:Dif l)(hs:zdd l){T:List Str}(hT:IncS T)(h0:[]∉T)(hB:∀ e∈l,e.1.2∈T∨e.1.2=[])(a:Str):cntL (tabN l l.length) a (T++[[]])=vecU a T l l.length:=by
 have hl1:(cntL (tabN l l.length) a (T++[[]])).length=T.length+1:=by rw [zlM];simp
 have hl2:=zdx a T l l.length;apply List.ext_getElem (by omega);intro j h1 h2;have hj:j≤T.length:=by omega
 have e1:=zlN (tabN l l.length) a (T++[[]]) j (by simp;omega);have e2:=zql hs hT h0 hB a hj l.length (Nat.le_refl _);rw [List.take_length,zon hd]at e2;rw [zqy hd]at e1;rw [List.getD_eq_getElem?_getD,List.getElem?_eq_getElem h1]at e1;rw [List.getD_eq_getElem?_getD,List.getElem?_eq_getElem h2]at e2;simp only [Option.getD_some]at e1 e2;rw [e1,e2]
theorem zkj(a:Str)(T:List Str)(l:List Ent)(j:Nat):∀ i,(vecU a T l i).getD j 0≤sumU a l i
 |0=>by show (List.replicate (T.length+1) 0).getD j 0≤0;rw [List.getD_eq_getElem?_getD,List.getElem?_replicate];split<;>simp
 |i+1=>by
  have h1:=zkj a T l j i;have h2:=zkj a T l (ixU T (nthE l i).1.2 T.length) i;show (zmb a T (vecU a T l i) (nthE l i)).getD j 0≤_;unfold zmb sumU;split
  ·rw [List.getD_eq_getElem?_getD,List.getElem?_set];split
   ·split
    ·simp only [Option.getD_some];omega
    ·simp
   ·rw [←List.getD_eq_getElem?_getD];omega
  ·exact h1
theorem incB_dif {l:List Ent}(h:incB l=true):Dif l:=by
 unfold incB at h;have h1:∀ i,i+1<l.length→lt (nthE l i).1 (nthE l (i+1)).1=true:=@of_decide_eq_true _ (Classical.propDecidable _) h;have key:∀ j i,i<j→j<l.length→lt (nthE l i).1 (nthE l j).1=true:=by
  intro j;induction j with
  |zero=>intro i hi;omega
  |succ j ih=>
   intro i hi hj;by_cases hij:i=j
   ·subst hij;exact h1 i hj
   ·exact lt_trans (ih i (by omega) (by omega)) (h1 j hj)
 refine List.pairwise_iff_getElem.2 fun i j hi hj hij e=>?_;have:=key j i hij hj;unfold nthE at this;rw [List.getD_eq_getElem?_getD,List.getD_eq_getElem?_getD,List.getElem?_eq_getElem hi,List.getElem?_eq_getElem hj]at this;simp only [Option.getD_some]at this;rw [e,lt_irrefl]at this;cases this
theorem vB_dif {q:Str→Bool}{l:List Ent}(h:vB q l=true):Dif l:=by unfold vB at h;simp only [Bool.and_eq_true]at h;exact incB_dif h.2
theorem zjm {A B:List Ent}(h:zcq A B=true):(Dif A∧A.length≤30000)∧Dif B∧B.length≤30000:=by
 unfold zcq at h;simp only [Bool.and_eq_true]at h;have l:∀ {q:Str→Bool} {l:List Ent},vB q l=true→l.length≤30000:=fun h=>by unfold vB at h;simp only [Bool.and_eq_true,decide_eq_true_eq]at h;exact h.1.1
 exact⟨⟨vB_dif h.1,l h.1⟩,vB_dif h.2,l h.2⟩
theorem zv2 {l:List Ent}(hd:Dif l)(hs:zdd l)(hl:l.length≤30000){T:List Str}(hT:IncS T)(h0:[]∉T)(hTl:T.length≤90000)(hB:∀ e∈l,e.1.2∈T∨e.1.2=[]){k:Str}(lk:k.length≤1000000)(hp:(ratP k).isSome=true)(hk:k.head? ≠some 45)(a:Str):
 RowOK (tabN l l.length) (tabS l l.length) (T++[[]]) a k∧
 ze4 k (T++[[]]).length (valS (tabS l l.length) a).toNat (cntL (tabN l l.length) a (T++[[]]))=.tup [.fs (strs (zcL k (T.length+1) (sumU a l l.length) (vecU a T l l.length)).2) (zcL k (T.length+1) (sumU a l l.length) (vecU a T l l.length)).2.length,.int .i64 (zcL k (T.length+1) (sumU a l l.length) (vecU a T l l.length)).1]∧
 ((zcL k (T.length+1) (sumU a l l.length) (vecU a T l l.length)).1≠0→(zcL k (T.length+1) (sumU a l l.length) (vecU a T l l.length)).1=2):=by
 have hsv:=zks hs a l.length (Nat.le_refl _)
 have hsl:=zoo (a:=a) hs l.length
 have hle:=cnt_law hd hs hT h0 hB a
 have hlen:(T++[[]]).length=T.length+1:=by simp
 have hsn:(valS (tabS l l.length) a).toNat=sumU a l l.length:=by rw [hsv];omega
 have hvb:∀ j,(vecU a T l l.length).getD j 0≤1000000000∨True:=fun j=>.inr trivial
 have hvs:=fun j=>zkj a T l j l.length
 have hval:∀ x,0≤val (tabN l l.length) x∧val (tabN l l.length) x≤1000000:=fun x=>by rw [zqy hd];exact zsb (by omega) hs x
 have hc1:∀ j,(cntL (tabN l l.length) a (T++[[]])).getD j 0≤1000000:=fun j=>by
  by_cases hj:j<(T++[[]]).length
  ·rw [zlN _ _ _ _ hj];have:=(hval (a,(T++[[]]).getD j [])).2;omega
  ·rw [List.getD_eq_getElem?_getD,List.getElem?_eq_none (by rw [zlM];omega)];simp
 refine⟨⟨by omega,by omega,hval,by rw [hsv];omega,lk,?_⟩,?_,?_⟩
 ·intro h1 h2 j hj
  rw [hlen,hsn]at h2
  rw [hlen]at h1
  obtain⟨_,f2⟩:=zmt hp hk (len:=T.length+1) (s:=sumU a l l.length) (by omega) (by omega) (by omega)
  obtain⟨_,g2⟩:=f2 h1
  rw [h2]at g2
  obtain⟨n2,d2,hr,_,hz⟩:=g2 rfl
  have e:some (false,0,1)=some (false,n2,d2):=ratP_0.symm.trans hr
  simp only [Option.some.injEq,Prod.mk.injEq,true_and]at e
  obtain⟨hs0,hk0⟩:=hz e.1.symm
  have hc:=hvs j
  rw [hs0]at hc
  rw [hle]
  have:(vecU a T l l.length).getD j 0=0:=by omega
  rw [this]
  exact zqj hk0
 ·rw [hsn,hlen,hle];rfl
 ·refine zwB hp hk (by omega) (by omega) (by omega) fun j=>?_
  rw [←hle]
  have:=hc1 j
  omega
theorem mem_tagA {A B:List Ent}{e:Ent}(he:e∈A):e.1.2∈nmS (tagL A B)∨e.1.2=[]:=by
 by_cases h:e.1.2=[]
 ·exact .inr h
 ·refine .inl (mem_nmS.2 ⟨?_,h⟩);unfold tagL zdn;exact List.mem_append_left _ (List.mem_flatMap.2 ⟨e,he,by simp⟩)
theorem zxp {B:List Ent}{e:Ent}(he:e∈B):e.1.2∈nmS (zai B)∨e.1.2=[]:=by
 by_cases h:e.1.2=[]
 ·exact .inr h
 ·exact .inl (mem_nmS.2 ⟨List.mem_map.2 ⟨e,he,rfl⟩,h⟩)
theorem est_law(A B:List Ent)(k:Str)(sA:zft A)(sB:zft B)(lk:k.length≤1000000)(hv:zcq A B=true)(hp:(ratP k).isSome=true)(hk:k.head? ≠some 45)(i:Nat):
 RowOK (tabN A A.length) (tabS A A.length) (nmS (tagL A B)++[[]]) ((nmS (tagL A B)++[[]]).getD i []) k∧RowOK (tabN B B.length) (tabS B B.length) (nmS (zai B)++[[]]) ((nmS (tagL A B)++[[]]).getD i []) k∧
 ze4 k (nmS (tagL A B)++[[]]).length (valS (tabS A A.length) ((nmS (tagL A B)++[[]]).getD i [])).toNat (cntL (tabN A A.length) ((nmS (tagL A B)++[[]]).getD i []) (nmS (tagL A B)++[[]]))=.tup [.fs (strs (rowN A (nmS (tagL A B)) k i).2) (rowN A (nmS (tagL A B)) k i).2.length,.int .i64 (rowN A (nmS (tagL A B)) k i).1]∧
 ze4 k (nmS (zai B)++[[]]).length (valS (tabS B B.length) ((nmS (tagL A B)++[[]]).getD i [])).toNat (cntL (tabN B B.length) ((nmS (tagL A B)++[[]]).getD i []) (nmS (zai B)++[[]]))=.tup [.fs (strs (rowE B (nmS (tagL A B)) (nmS (zai B)) k i).2) (rowE B (nmS (tagL A B)) (nmS (zai B)) k i).2.length,.int .i64 (rowE B (nmS (tagL A B)) (nmS (zai B)) k i).1]∧
 ((rowN A (nmS (tagL A B)) k i).1≠0→(rowN A (nmS (tagL A B)) k i).1=2)∧((rowE B (nmS (tagL A B)) (nmS (zai B)) k i).1≠0→(rowE B (nmS (tagL A B)) (nmS (zai B)) k i).1=2):=by
 obtain⟨⟨dA,lA⟩,dB,lB⟩:=zjm hv
 obtain⟨smA,smB⟩:=zee hv
 have tl:(nmS (tagL A B)).length≤90000:=by
  have:=zlf (tagL A B);have h2:(tagL A B).length=2*A.length+B.length:=by unfold tagL;rw [List.length_append,zfP,List.length_map]
  omega
 have wl:(nmS (zai B)).length≤90000:=by
  have:=zlf (zai B);have h2:(zai B).length=B.length:=by unfold zai;rw [List.length_map]
  omega
 have h0:∀ L:List Str,[]∉nmS L:=fun L h=>(mem_nmS.1 h).2 rfl
 obtain⟨a1,a2,a3⟩:=zv2 dA smA lA (zh2 (tagL A B)) (h0 _) tl (fun e he=>mem_tagA he) lk hp hk ((nmS (tagL A B)++[[]]).getD i [])
 obtain⟨b1,b2,b3⟩:=zv2 dB smB lB (zh2 (zai B)) (h0 _) wl (fun e he=>zxp he) lk hp hk ((nmS (tagL A B)++[[]]).getD i [])
 exact⟨a1,b1,a2,b2,a3,b3⟩
end Go.Proofs
