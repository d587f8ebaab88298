/- Going forward with texts: what the program reckons is what the plain law reckons, or a number is too long. -/
import Derived.Test.YthbimeikbkjnkaaGreatDoorCVM4
set_option linter.all false
set_option maxHeartbeats 16000000
set_option maxRecDepth 100000
namespace Go.Proofs
open Go.Ab Go.Cnt Go.Pl Go.Tg
def nx(m:Mdl)(i j:Nat):Str:=(nthR m.next i).getD j []
def em(m:Mdl)(j c:Nat):Str:=(nthR m.emit j).getD c []
section
variable {β:Type}(st:Int→β→List Nat→Str→β×Int)(pl:Int→β→β→β×Int)(m:Mdl)(none first:β)
def one(f:Int)(v u:β)(j:List Nat)(a b:Str):β×Int:=pl (st (tm f a b).2 u j (tm f a b).1).2 v (st (tm f a b).2 u j (tm f a b).1).1
def one'(f:Int)(v u:β)(a:Str):β×Int:=pl (st f u [] a).2 v (st f u [] a).1
def row1(bef:Nat→Option β)(j c:Nat)(f:Int):Nat→β×Int
 |0=>(none,f)
 |k+1=>match bef k with
  |some u=>one st pl (row1 bef j c f k).2 (row1 bef j c f k).1 u [j] (nx m k j) (em m j c)
  | .none=>row1 bef j c f k
def rowK(bef:Nat→Option β)(c:Nat)(f:Int):Nat→List β×Int
 |0=>([],f)
 |j+1=>((rowK bef c f j).1++[(row1 st pl m none bef j c (rowK bef c f j).2 (m.tags.length+1)).1],(row1 st pl m none bef j c (rowK bef c f j).2 (m.tags.length+1)).2)
def befT(t:Nat)(l:List β):Nat→Option β:=fun i=>if t=0 then(if i=m.tags.length then some first else .none)else l[i]?
def fwdT(cs:List Nat):Nat→List β×Int
 |0=>([],0)
 |t+1=>rowK st pl m none (befT m first t (fwdT cs t).1) (cs.getD t 0) (fwdT cs t).2 m.tags.length
def fin1(bef:Nat→Option β)(f:Int):Nat→β×Int
 |0=>(none,f)
 |k+1=>match bef k with
  |some u=>one' st pl (fin1 bef f k).2 (fin1 bef f k).1 u (nx m k m.tags.length)
  | .none=>fin1 bef f k
def finT(cs:List Nat):β×Int:=fin1 st pl m none (befT m first cs.length (fwdT st pl m none first cs cs.length).1) (fwdT st pl m none first cs cs.length).2 (m.tags.length+1)
end
abbrev TL:=Str×List Nat
def cmpL:List Nat→List Nat→Int
 |[],[]=>0
 |[],_::_=> -1
 |_::_,[]=>1
 |x::a,y::b=>if x<y then -1 else if y<x then 1 else cmpL a b
theorem zyI:∀ a b:List Nat,cmpL a b<0↔zbI a b=true
 |[],[]=>by simp [cmpL,zbI]
 |[],_::_=>by simp [cmpL,zbI]
 |_::_,[]=>by simp [cmpL,zbI]
 |x::a,y::b=>by
  have ih:=zyI a b;unfold cmpL zbI;simp only [Bool.or_eq_true,Bool.and_eq_true,decide_eq_true_eq];by_cases h:x<y
  ·rw [if_pos h];exact⟨fun _=>.inl h,fun _=>by decide⟩
  ·rw [if_neg h];by_cases h':y<x
   ·rw [if_pos h'];constructor
    ·intro k;omega
    ·rintro(k|⟨k,_⟩)<;>omega
   ·rw [if_neg h'];have e:x=y:=by omega
    rw [ih];exact⟨fun k=>.inr ⟨e,k⟩,fun k=>k.elim (fun k=>absurd k h) (·.2)⟩
def betT(a b:TL):TL:=if zaG a.1 b.1<0∨(zaG a.1 b.1=0∧b.1≠[48]∧cmpL b.2 a.2<0)then b else a
def stL(f:Int)(u:TL)(j:List Nat)(p:Str):TL×Int:=if (tm f u.1 p).1=[48]then(((tm f u.1 p).1,[]),(tm f u.1 p).2)else(((tm f u.1 p).1,u.2++j),(tm f u.1 p).2)
def plL(f:Int)(a b:TL):TL×Int:=(betT a b,f)
def stS(f:Int)(u:Str)(_:List Nat)(p:Str):Str×Int:=tm f u p
def Oc(B:Prop)(f:Int)(good:Prop):Prop:=(f=0∧good)∨(f=2∧¬B)
theorem zxE(r:Str×Int):(kn 2 r).2=2:=by unfold kn;split<;>rfl
theorem znY {B:Prop}{a b:Str}{x y u v:Nat}(ha:Is a x y)(hb:Is b u v)(h:B→x*u<10 ^ 400∧y*v<10 ^ 400):Oc B (tm 0 a b).2 (Is (tm 0 a b).1 (x*u) (y*v)):=by
 unfold tm kn;rcases zoy ha hb with⟨e,hi⟩|⟨e,hn⟩
 ·rw [if_neg (by simp [e])];exact .inl ⟨rfl,hi⟩
 ·rw [if_pos (by simp [e])];exact .inr ⟨e,fun hB=>hn (h hB)⟩
theorem ps_oc {B:Prop}{a b:Str}{x u y:Nat}(ha:Is a x y)(hb:Is b u y)(h:B→x+u<10 ^ 400∧y<10 ^ 400):Oc B (ps 0 a b).2 (Is (ps 0 a b).1 (x+u) y):=by
 unfold ps kn;rcases padd_is ha hb with⟨e,hi⟩|⟨e,hn⟩
 ·rw [if_neg (by simp [e])];exact .inl ⟨rfl,hi⟩
 ·rw [if_pos (by simp [e])];exact .inr ⟨e,fun hB=>hn (h hB)⟩
theorem one_zero:Is [48] 0 1:=Is.dec (n:=0) (by decide)
theorem zfU {y:Nat}(h:0<y):Is [48] 0 y:=one_zero.eq h (by simp)
theorem zmA:Is [49] 1 1:=Is.dec (n:=1) (by decide)
def RL(Y:Nat)(x:TL)(c:Cand):Prop:=Is x.1 c.1 Y∧x.2=c.2
theorem zry {Y:Nat}{x y:TL}{c d:Cand}(hx:RL Y x c)(hy:RL Y y d):RL Y (betT x y) (better c d):=by
 unfold betT better;have hz:=hy.1.z;have e:(zaG x.1 y.1<0∨(zaG x.1 y.1=0∧y.1≠[48]∧cmpL y.2 x.2<0))↔(c.1<d.1∨(c.1=d.1∧d.1≠0∧zbI d.2 c.2=true)):=by
  rw [zyI,zrg hx.1 hy.1,hx.2,hy.2,Ne,hz];by_cases h:c.1=d.1
  ·rw [if_pos h];simp [h]
  ·rw [if_neg h];by_cases h':c.1<d.1
   ·rw [if_pos h'];simp [h']
   ·rw [if_neg h'];simp [h,h']
 by_cases h:c.1<d.1∨(c.1=d.1∧d.1≠0∧zbI d.2 c.2=true)
 ·rw [if_pos (e.2 h),if_pos h];exact hy
 ·rw [if_neg (fun k=>h (e.1 k)),if_neg h];exact hx
theorem stL_oc {B:Prop}{Y D w:Nat}{u:TL}{c:Cand}{p:Str}(j:List Nat)(hu:RL Y u c)(hp:Is p w D)(h:B→c.1*w<10 ^ 400∧Y*D<10 ^ 400):Oc B (stL 0 u j p).2 (RL (Y*D) (stL 0 u j p).1 (stp c w j)):=by
 have ho:=znY hu.1 hp h;unfold stL stp;rcases ho with⟨e,hi⟩|⟨e,hn⟩
 ·by_cases hz:c.1*w=0
  ·rw [if_pos hz,if_pos (hi.z.2 hz)];refine .inl ⟨e,?_,rfl⟩;rw [←hz];exact hi
  ·rw [if_neg hz,if_neg (fun k=>hz (hi.z.1 k))];exact .inl ⟨e,hi,by rw [hu.2]⟩
 ·split<;>exact .inr ⟨e,hn⟩
theorem zj2(u:TL)(j:List Nat)(p:Str):(stL 2 u j p).2=2:=by unfold stL;split<;>exact zxE _
theorem ziT(a b:Str):(tm 2 a b).2=2:=zxE _
theorem zqD(v u:TL)(j:List Nat)(a b:Str):(one stL plL 2 v u j a b).2=2:=by show (stL (tm 2 a b).2 u j (tm 2 a b).1).2=2;rw [ziT,zj2]
theorem oneL_oc {B:Prop}{Y x y p q:Nat}{v u:TL}{cv cu:Cand}{a b:Str}(j:List Nat)(hv:RL (Y*(y*q)) v cv)(hu:RL Y u cu)(ha:Is a x y)(hb:Is b p q)
 (h1:B→x*p<10 ^ 400∧y*q<10 ^ 400) (h2:B→cu.1*(x*p)<10 ^ 400∧Y*(y*q)<10 ^ 400):Oc B (one stL plL 0 v u j a b).2 (RL (Y*(y*q)) (one stL plL 0 v u j a b).1 (better cv (stp cu (x*p) j))):=by
 unfold one plL
 rcases znY ha hb h1 with⟨e,hi⟩|⟨e,hn⟩
 ·rw [e]
  rcases stL_oc j hu hi h2 with⟨e2,hi2⟩|⟨e2,hn2⟩
  ·exact .inl ⟨e2,zry hv hi2⟩
  ·exact .inr ⟨e2,hn2⟩
 ·refine .inr ⟨?_,hn⟩
  rw [e];exact zj2 _ _ _
structure Nums(m:Mdl)(cs:List Nat)(N:Nat→Nat→Nat→Nat)(E:Nat→Nat→Nat)(b:Nat→Nat)(DN DE:Nat→Nat)(Df:Nat):Prop where
 n:∀ t i j,t<cs.length→i∈src m.tags.length t→j<m.tags.length→Is (nx m i j) (N t i j) (DN t)∧N t i j≤DN t
 e:∀ t j,t<cs.length→j<m.tags.length→Is (em m j (cs.getD t 0)) (E t j) (DE t)∧E t j≤DE t
 f:∀ i,i∈src m.tags.length cs.length→Is (nx m i m.tags.length) (b i) Df∧b i≤Df
 pn:∀ t,0<DN t
 pe:∀ t,0<DE t
 pf:0<Df
def YY(DN DE:Nat→Nat):Nat→Nat
 |0=>1
 |t+1=>YY DN DE t*(DN t*DE t)
theorem zAj {Y:Nat}{c d:Cand}(h:c.1≤Y)(k:d.1≤Y):(better c d).1≤Y:=by unfold better;split<;>assumption
theorem step_le {Y D w:Nat}{c:Cand}(j:List Nat)(h:c.1≤Y)(k:w≤D):(stp c w j).1≤Y*D:=by
 unfold stp;split
 ·exact Nat.zero_le _
 ·exact Nat.mul_le_mul h k
theorem zyb {ι:Type}{Y:Nat}(g:ι→Cand):∀(l:List ι) (c:Cand),c.1≤Y→(∀ i∈l,(g i).1≤Y)→(l.foldl (fun v i=>better v (g i)) c).1≤Y
 |[],c,h,_=>h
 |i::l,c,h,k=>zyb g l _ (zAj h (k i (by simp))) fun i' hi=>k i' (by simp [hi])
section
variable {m:Mdl}{cs:List Nat}{N:Nat→Nat→Nat→Nat}{E:Nat→Nat→Nat}{b:Nat→Nat}{DN DE:Nat→Nat}{Df:Nat}
abbrev wN(N:Nat→Nat→Nat→Nat)(E:Nat→Nat→Nat):Nat→Nat→Nat→Nat:=fun t i j=>N t i j*E t j
theorem zjF(H:Nums m cs N E b DN DE Df):∀ t,0<YY DN DE t
 |0=>Nat.one_pos
 |t+1=>Nat.mul_pos (zjF H t) (Nat.mul_pos (H.pn t) (H.pe t))
theorem fw_le(H:Nums m cs N E b DN DE Df):∀ t i,t≤cs.length→i∈src m.tags.length t→(fw m.tags.length (wN N E) t i).1≤YY DN DE t
 |0,i,_,_=>Nat.le_refl _
 |t+1,j,ht,hj=>by
  have hj':j<m.tags.length:=by simpa [src] using hj
  rw [fw];refine zyb (fun i=>stp (fw m.tags.length (wN N E) t i) (wN N E t i j) [j]) _ _ (Nat.zero_le _) fun i hi=>?_;exact step_le _ (fw_le H t i (by omega) hi) (Nat.mul_le_mul (H.n t i j (by omega) hi hj').2 (H.e t j (by omega) hj').2)
theorem zj4 {γ:Type}(n t:Nat)(g:γ→Nat→γ)(z:γ):(src n t).foldl g z=(List.range (n+1)).foldl (fun v i=>if i∈src n t then g v i else v) z:=by
 unfold src;split
 ·have:∀ k,k≤n→(List.range k).foldl (fun v i=>if i∈[n]then g v i else v) z=z:=by
   intro k
   induction k with
   |zero=>intro _;rfl
   |succ k ih=>intro hk;rw [List.range_succ,List.foldl_append,ih (by omega)];simp only [List.foldl_cons,List.foldl_nil];rw [if_neg (by simp;omega)]
  rw [List.range_succ,List.foldl_append,this n (Nat.le_refl _)]
  simp
 ·rw [List.range_succ,List.foldl_append];simp only [List.foldl_cons,List.foldl_nil];rw [if_neg (by simp)];have:∀(l:List Nat) (v:γ),(∀ x∈l,x∈List.range n)→l.foldl (fun v i=>if i∈List.range n then g v i else v) v=l.foldl g v:=by
   intro l;induction l with
   |nil=>intro v _;rfl
   |cons x l ih=>intro v h;rw [List.foldl_cons,List.foldl_cons,if_pos (h x (by simp)),ih _ fun y hy=>h y (by simp [hy])]
  exact(this _ _ fun x hx=>hx).symm
theorem zlw(H:Nums m cs N E b DN DE Df){s t:Nat}(h:s≤t):YY DN DE s≤YY DN DE t:=by
 induction t with
 |zero=>rw [Nat.le_zero.1 h];exact Nat.le_refl _
 |succ t ih=>
  rcases Nat.lt_or_ge s (t+1)with k|k
  ·refine Nat.le_trans (ih (by omega)) ?_;exact Nat.le_mul_of_pos_right _ (Nat.mul_pos (H.pn t) (H.pe t))
  ·rw [Nat.le_antisymm h k];exact Nat.le_refl _
theorem zuY(H:Nums m cs N E b DN DE Df)(t:Nat):DN t*DE t≤YY DN DE (t+1):=Nat.le_mul_of_pos_left _ (zjF H t)
def zrL(m:Mdl)(N:Nat→Nat→Nat→Nat)(E:Nat→Nat→Nat)(DN DE:Nat→Nat)(t:Nat)(bef:Nat→Option TL):Prop:=
 ∀ i,i≤m.tags.length→(i∈src m.tags.length t→∃ u,bef i=some u∧RL (YY DN DE t) u (fw m.tags.length (wN N E) t i))∧(i∉src m.tags.length t→bef i=none)
theorem zgt(bef:Nat→Option TL)(j c:Nat):∀ k,(row1 stL plL m ([48],[]) bef j c 2 k).2=2
 |0=>rfl
 |k+1=>by
  rw [row1];cases bef k with
  |none=>exact zgt bef j c k
  |some u=>dsimp only;rw [zgt bef j c k];exact zqD _ _ _ _ _
theorem zvX {B:Prop}(H:Nums m cs N E b DN DE Df)(hB:B→YY DN DE cs.length*Df<10 ^ 400){t j:Nat}(ht:t<cs.length)(hj:j<m.tags.length){bef:Nat→Option TL}(hs:zrL m N E DN DE t bef):
 ∀ k,k≤m.tags.length+1→Oc B (row1 stL plL m ([48],[]) bef j (cs.getD t 0) 0 k).2 (RL (YY DN DE (t+1)) (row1 stL plL m ([48],[]) bef j (cs.getD t 0) 0 k).1 ((List.range k).foldl (fun v i=>if i∈src m.tags.length t then better v (stp (fw m.tags.length (wN N E) t i) (wN N E t i j) [j])else v) (0,[])))
 |0,_=>.inl ⟨rfl,zfU (zjF H _),rfl⟩
 |k+1,hk=>by
  have ih:=zvX H hB ht hj hs k (by omega);rw [row1,List.range_succ,List.foldl_append];simp only [List.foldl_cons,List.foldl_nil];obtain⟨h1,h2⟩:=hs k (by omega);by_cases hk':k∈src m.tags.length t
  ·obtain⟨u,hu,hr⟩:=h1 hk';rw [hu,if_pos hk'];dsimp only;rcases ih with⟨e,hi⟩|⟨e,hn⟩
   ·rw [e];have hYT:B→YY DN DE (t+1)<10 ^ 400:=fun hb=>by have k1:=zlw H (s:=t+1) (t:=cs.length) (by omega);have k2:=Nat.le_mul_of_pos_right (YY DN DE cs.length) H.pf;exact Nat.lt_of_le_of_lt (Nat.le_trans k1 k2) (hB hb)
    obtain⟨n1,n2⟩:=H.n t k j ht hk' hj;obtain⟨e1,e2⟩:=H.e t j ht hj;refine oneL_oc [j] hi hr n1 e1 (fun hb=>⟨?_,?_⟩) (fun hb=>⟨?_,hYT hb⟩)
    ·exact Nat.lt_of_le_of_lt (Nat.le_trans (Nat.mul_le_mul n2 e2) (zuY H t)) (hYT hb)
    ·exact Nat.lt_of_le_of_lt (zuY H t) (hYT hb)
    ·exact Nat.lt_of_le_of_lt (Nat.mul_le_mul (fw_le H t k (by omega) hk') (Nat.mul_le_mul n2 e2)) (hYT hb)
   ·exact .inr ⟨by rw [e];exact zqD _ _ _ _ _,hn⟩
  ·rw [h2 hk',if_neg hk'];exact ih
theorem zbQ {β:Type}(st:Int→β→List Nat→Str→β×Int)(pl:Int→β→β→β×Int)(m:Mdl)(none:β)(bef:Nat→Option β)(c:Nat)(f:Int):∀ k,(rowK st pl m none bef c f k).1.length=k
 |0=>rfl
 |k+1=>by rw [rowK,List.length_append,zbQ st pl m none bef c f k];rfl
theorem zqr(bef:Nat→Option TL)(c:Nat):∀ k,(rowK stL plL m ([48],[]) bef c 2 k).2=2
 |0=>rfl
 |k+1=>by rw [rowK];dsimp only;rw [zqr bef c k];exact zgt _ _ _ _
theorem zvV {B:Prop}(H:Nums m cs N E b DN DE Df)(hB:B→YY DN DE cs.length*Df<10 ^ 400){t:Nat}(ht:t<cs.length){bef:Nat→Option TL}(hs:zrL m N E DN DE t bef):
 ∀ k,k≤m.tags.length→Oc B (rowK stL plL m ([48],[]) bef (cs.getD t 0) 0 k).2 (∀ j,j<k→∃ u,(rowK stL plL m ([48],[]) bef (cs.getD t 0) 0 k).1[j]? =some u∧RL (YY DN DE (t+1)) u (fw m.tags.length (wN N E) (t+1) j))
 |0,_=>.inl ⟨rfl,fun j hj=>by omega⟩
 |k+1,hk=>by
  have hl:=zbQ stL plL m ([48],[]) bef (cs.getD t 0) 0 k;rw [rowK];dsimp only;rcases zvV H hB ht hs k (by omega)with⟨e,hi⟩|⟨e,hn⟩
  ·rw [e];have ho:=zvX H hB ht (show k<m.tags.length by omega) hs (m.tags.length+1) (Nat.le_refl _);rw [←zj4 m.tags.length t (fun v i=>better v (stp (fw m.tags.length (wN N E) t i) (wN N E t i k) [k]))]at ho;rcases ho with⟨e2,h2⟩|⟨e2,hn⟩
   ·refine .inl ⟨e2,fun j hj=>?_⟩;rcases Nat.lt_or_ge j k with h|h
    ·obtain⟨u,hu,hr⟩:=hi j h;exact⟨u,by rw [List.getElem?_append_left (by omega)];exact hu,hr⟩
    ·have:j=k:=by omega
     subst this;refine⟨_,by rw [List.getElem?_append_right (by omega),hl,Nat.sub_self];rfl,?_⟩;rw [fw];exact h2
   ·exact .inr ⟨e2,hn⟩
  ·exact .inr ⟨by rw [e];exact zgt _ _ _ _,hn⟩
theorem zx9 {B:Prop}(H:Nums m cs N E b DN DE Df)(hB:B→YY DN DE cs.length*Df<10 ^ 400):∀ t,t≤cs.length→Oc B (fwdT stL plL m ([48],[]) ([49],[]) cs t).2 (zrL m N E DN DE t (befT m ([49],[]) t (fwdT stL plL m ([48],[]) ([49],[]) cs t).1))
 |0,_=>.inl ⟨rfl,fun i hi=>by
  unfold befT;simp only [if_true,src,List.mem_singleton];constructor
  ·intro h;rw [if_pos h];exact⟨_,rfl,zmA,rfl⟩
  ·intro h;rw [if_neg h]⟩
 |t+1,ht=>by
  rw [fwdT];rcases zx9 H hB t (by omega)with⟨e,hi⟩|⟨e,hn⟩
  ·rw [e];have hl:=zbQ stL plL m ([48],[]) (befT m ([49],[]) t (fwdT stL plL m ([48],[]) ([49],[]) cs t).1) (cs.getD t 0) 0 m.tags.length;rcases zvV H hB (show t<cs.length by omega) hi m.tags.length (Nat.le_refl _)with⟨e2,h2⟩|⟨e2,hn⟩
   ·refine .inl ⟨e2,fun i hi=>?_⟩;have es:src m.tags.length (t+1)=List.range m.tags.length:=by simp [src]
    rw [show ∀ l:List TL,befT m ([49],[]) (t+1) l i=l[i]? from fun l=>if_neg (by omega),es,List.mem_range];refine⟨fun h=>h2 i h,fun h=>?_⟩;rw [List.getElem?_eq_none (by rw [hl];omega)]
   ·exact .inr ⟨e2,hn⟩
  ·exact .inr ⟨by rw [e];exact zqr _ _ _,hn⟩
theorem zk5(bef:Nat→Option TL):∀ k,(fin1 stL plL m ([48],[]) bef 2 k).2=2
 |0=>rfl
 |k+1=>by
  rw [fin1];cases bef k with
  |none=>exact zk5 bef k
  |some u=>dsimp only;rw [zk5 bef k];show (stL 2 u [] _).2=2;exact zj2 _ _ _
theorem zyf {B:Prop}(H:Nums m cs N E b DN DE Df)(hB:B→YY DN DE cs.length*Df<10 ^ 400){bef:Nat→Option TL}(hs:zrL m N E DN DE cs.length bef):
 ∀ k,k≤m.tags.length+1→Oc B (fin1 stL plL m ([48],[]) bef 0 k).2 (RL (YY DN DE cs.length*Df) (fin1 stL plL m ([48],[]) bef 0 k).1 ((List.range k).foldl (fun v i=>if i∈src m.tags.length cs.length then better v (stp (fw m.tags.length (wN N E) cs.length i) (b i) [])else v) (0,[])))
 |0,_=>.inl ⟨rfl,zfU (Nat.mul_pos (zjF H _) H.pf),rfl⟩
 |k+1,hk=>by
  have ih:=zyf H hB hs k (by omega);rw [fin1,List.range_succ,List.foldl_append];simp only [List.foldl_cons,List.foldl_nil];obtain⟨h1,h2⟩:=hs k (by omega);by_cases hk':k∈src m.tags.length cs.length
  ·obtain⟨u,hu,hr⟩:=h1 hk';rw [hu,if_pos hk'];dsimp only;rcases ih with⟨e,hi⟩|⟨e,hn⟩
   ·rw [e];obtain⟨n1,n2⟩:=H.f k hk';unfold one' plL;have hb1:B→(fw m.tags.length (wN N E) cs.length k).1*b k<10 ^ 400:=fun hb=>Nat.lt_of_le_of_lt (Nat.mul_le_mul (fw_le H _ k (Nat.le_refl _) hk') n2) (hB hb);rcases stL_oc (B:=B) [] hr n1 (fun hb=>⟨hb1 hb,hB hb⟩)with⟨e2,hi2⟩|⟨e2,hn2⟩
    ·exact .inl ⟨e2,zry hi hi2⟩
    ·exact .inr ⟨e2,hn2⟩
   ·refine .inr ⟨?_,hn⟩;rw [e];exact zj2 _ _ _
  ·rw [h2 hk',if_neg hk'];exact ih
theorem finL_oc {B:Prop}(H:Nums m cs N E b DN DE Df)(hB:B→YY DN DE cs.length*Df<10 ^ 400):Oc B (finT stL plL m ([48],[]) ([49],[]) cs).2 (RL (YY DN DE cs.length*Df) (finT stL plL m ([48],[]) ([49],[]) cs).1 (fin m.tags.length (wN N E) b cs.length)):=by
 unfold finT;rcases zx9 H hB cs.length (Nat.le_refl _)with⟨e,hi⟩|⟨e,hn⟩
 ·rw [e];have:=zyf H hB hi (m.tags.length+1) (Nat.le_refl _);rw [←zj4 m.tags.length cs.length (fun v i=>better v (stp (fw m.tags.length (wN N E) cs.length i) (b i) []))]at this;exact this
 ·exact .inr ⟨by rw [e];exact zk5 _ _,hn⟩
end
end Go.Proofs

namespace Go.Proofs
open Go.Ab Go.Cnt Go.Pl Go.Tg
def zot(m:Mdl)(cs js:List Nat)(k:Nat):Str×Int:=pmul (nx m (lastOf m.tags.length js k) (js.getD k 0)) (em m (js.getD k 0) (cs.getD k 0))
def prR(m:Mdl)(cs js:List Nat):Nat→Str×Int
 |0=>([49],0)
 |k+1=>if (prR m cs js k).2≠0 then([],(prR m cs js k).2)else if (zot m cs js k).2≠0 then([],(zot m cs js k).2)else pmul (prR m cs js k).1 (zot m cs js k).1
def prob(m:Mdl)(cs js:List Nat):Str×Int:=if (prR m cs js cs.length).2≠0 then([],(prR m cs js cs.length).2)else pmul (prR m cs js cs.length).1 (nx m (lastOf m.tags.length js cs.length) m.tags.length)
theorem zox {B:Prop}{a b:Str}{x y u v:Nat}(ha:Is a x y)(hb:Is b u v)(h:B→x*u<10 ^ 400∧y*v<10 ^ 400):Oc B (pmul a b).2 (Is (pmul a b).1 (x*u) (y*v)):=by
 rcases zoy ha hb with⟨e,hi⟩|⟨e,hn⟩
 ·exact .inl ⟨e,hi⟩
 ·exact .inr ⟨e,fun hB=>hn (h hB)⟩
section
variable {m:Mdl}{cs:List Nat}{N:Nat→Nat→Nat→Nat}{E:Nat→Nat→Nat}{b:Nat→Nat}{DN DE:Nat→Nat}{Df:Nat}
theorem zfT {L:List Nat}{T k:Nat}(hL:L∈LL m.tags.length T)(hk:k≤T):lastOf m.tags.length L k∈src m.tags.length k:=by
 unfold lastOf src;by_cases h:k=0
 ·rw [if_pos h,if_pos h];simp
 ·rw [if_neg h,if_neg h,List.mem_range];have hl:=zd8 _ _ _ hL;refine znO _ _ _ hL _ ?_;rw [List.getD_eq_getElem?_getD,List.getElem?_eq_getElem (by omega)];exact List.getElem_mem _
theorem getD_lt {L:List Nat}{T k:Nat}(hL:L∈LL m.tags.length T)(hk:k<T):L.getD k 0<m.tags.length:=by have hl:=zd8 _ _ _ hL;refine znO _ _ _ hL _ ?_;rw [List.getD_eq_getElem?_getD,List.getElem?_eq_getElem (by omega)];exact List.getElem_mem _
theorem pw_le(H:Nums m cs N E b DN DE Df){L:List Nat}(hL:L∈LL m.tags.length cs.length):∀ k,k≤cs.length→pw m.tags.length (wN N E) L k≤YY DN DE k
 |0,_=>Nat.le_refl _
 |k+1,hk=>by have h1:=zfT hL (show k≤cs.length by omega);have h2:=getD_lt hL (show k<cs.length by omega);rw [pw];exact Nat.mul_le_mul (pw_le H hL k (by omega)) (Nat.mul_le_mul (H.n k _ _ (by omega) h1 h2).2 (H.e k _ (by omega) h2).2)
theorem prR_oc {B:Prop}(H:Nums m cs N E b DN DE Df)(hB:B→YY DN DE cs.length*Df<10 ^ 400){L:List Nat}(hL:L∈LL m.tags.length cs.length):
 ∀ k,k≤cs.length→Oc B (prR m cs L k).2 (Is (prR m cs L k).1 (pw m.tags.length (wN N E) L k) (YY DN DE k))
 |0,_=>.inl ⟨rfl,zmA⟩
 |k+1,hk=>by
  have h1:=zfT hL (show k≤cs.length by omega);have h2:=getD_lt hL (show k<cs.length by omega);obtain⟨n1,n2⟩:=H.n k _ _ (by omega) h1 h2;obtain⟨e1,e2⟩:=H.e k _ (by omega) h2;have hYT:B→YY DN DE (k+1)<10 ^ 400:=fun hb=>by have k1:=zlw H (s:=k+1) (t:=cs.length) (by omega);have k2:=Nat.le_mul_of_pos_right (YY DN DE cs.length) H.pf;exact Nat.lt_of_le_of_lt (Nat.le_trans k1 k2) (hB hb)
  rw [prR];rcases prR_oc H hB hL k (by omega)with⟨e,hi⟩|⟨e,hn⟩
  ·rw [if_neg (by simp [e])];have hq:Oc B (zot m cs L k).2 _:=zox n1 e1 (fun hb=>⟨Nat.lt_of_le_of_lt (Nat.le_trans (Nat.mul_le_mul n2 e2) (zuY H k)) (hYT hb),Nat.lt_of_le_of_lt (zuY H k) (hYT hb)⟩);rcases hq with⟨e3,hi3⟩|⟨e3,hn⟩
   ·rw [if_neg (by simp [e3])];refine zox hi hi3 fun hb=>⟨?_,hYT hb⟩;exact Nat.lt_of_le_of_lt (Nat.mul_le_mul (pw_le H hL k (by omega)) (Nat.mul_le_mul n2 e2)) (hYT hb)
   ·rw [if_pos (by simp [e3])];exact .inr ⟨e3,hn⟩
  ·rw [if_pos (by simp [e])];exact .inr ⟨e,hn⟩
theorem prob_oc {B:Prop}(H:Nums m cs N E b DN DE Df)(hB:B→YY DN DE cs.length*Df<10 ^ 400){L:List Nat}(hL:L∈LL m.tags.length cs.length):
 Oc B (prob m cs L).2 (Is (prob m cs L).1 (wt m.tags.length (wN N E) b L cs.length) (YY DN DE cs.length*Df)):=by
 have h1:=zfT hL (Nat.le_refl cs.length)
 obtain⟨n1,n2⟩:=H.f _ h1
 unfold prob
 rcases prR_oc H hB hL cs.length (Nat.le_refl _)with⟨e,hi⟩|⟨e,hn⟩
 ·rw [if_neg (by simp [e])]
  refine zox hi n1 fun hb=>⟨?_,hB hb⟩
  exact Nat.lt_of_le_of_lt (Nat.mul_le_mul (pw_le H hL _ (Nat.le_refl _)) n2) (hB hb)
 ·rw [if_pos (by simp [e])]
  exact .inr ⟨e,hn⟩
end
theorem zfq:∀ L:List Str,(∀ a∈L,p01 a=true)→∃ D,0<D∧(∀ a∈L,∃ x,Is a x D∧x≤D)∧((∀ a∈L,a.countP (· ≠47)≤4)→D≤(10 ^ 4) ^ L.length)
 |[],_=>⟨1,Nat.one_pos,fun a h=>by simp at h,fun _=>by simp⟩
 |a::L,h=>by
  obtain⟨D,h1,h2,h3⟩:=zfq L fun x hx=>h x (by simp [hx]);obtain⟨n,d,hi,hn,hr⟩:=p01_is (h a (by simp));have hd:=hi.1;refine⟨d*D,Nat.mul_pos hd h1,fun x hx=>?_,fun hs=>?_⟩
  ·rcases List.mem_cons.1 hx with rfl|hx
   ·exact⟨n*D,hi.eq (Nat.mul_pos hd h1) (by ac_rfl),Nat.mul_le_mul_right _ hn⟩
   ·obtain⟨y,hy,hyl⟩:=h2 x hx;refine⟨y*d,hy.eq (Nat.mul_pos hd h1) (by ac_rfl),?_⟩;rw [Nat.mul_comm d D];exact Nat.mul_le_mul_right _ hyl
  ·have l1:=zsF hr (hs a (by simp));have l2:=h3 fun x hx=>hs x (by simp [hx]);rw [List.length_cons,Nat.pow_succ,Nat.mul_comm];exact Nat.mul_le_mul l2 (by omega)
def zhc(l:List (List Str)):Bool:=l.all fun r=>r.all fun s=>decide (s.countP (· ≠47)≤4)
def smallB(m:Mdl)(ws:List Str):Bool:=decide (m.tags.length≤3)&&decide (ws.length≤4)&&(zhc m.next&&zhc m.emit)
theorem zhD {M:List (List Str)}{r w i j:Nat}(h:matB M r w=true)(hi:i<r)(hj:j<w):p01 ((nthR M i).getD j [])=true∧(zhc M=true→((nthR M i).getD j []).countP (· ≠47)≤4):=by unfold matB at h;simp only [Bool.and_eq_true,decide_eq_true_eq,List.all_eq_true]at h;have hm:nthR M i∈M:=rowR.nth_mem (by omega);have h2:=h.2 _ hm;unfold zez at h2;simp only [Bool.and_eq_true,decide_eq_true_eq,List.all_eq_true]at h2;have hx:(nthR M i).getD j []∈nthR M i:=zfi (by omega);refine⟨h2.2 _ hx,fun hs=>?_⟩;unfold zhc at hs;simp only [List.all_eq_true,decide_eq_true_eq]at hs;exact hs _ hm _ hx
theorem zgV {m:Mdl}(h:vmB m=true):matB m.next (m.tags.length+1) (m.tags.length+1)=true∧matB m.emit m.tags.length (m.words.length+1)=true:=by unfold vmB at h;simp only [Bool.and_eq_true]at h;exact⟨h.2.2.2.2.2.1,h.2.2.2.2.2.2⟩
noncomputable def numD(a:Str)(D:Nat):Nat:=open Classical in if h:∃ x,Is a x D∧x≤D then Classical.choose h else 0
theorem zoK {a:Str}{D:Nat}(h:∃ x,Is a x D∧x≤D):Is a (numD a D) D∧numD a D≤D:=by unfold numD;rw [dif_pos h];exact Classical.choose_spec h
theorem zql {n t i:Nat}(h:i∈src n t):i≤n:=by
 unfold src at h;split at h
 ·rw [List.mem_singleton.1 h];exact Nat.le_refl _
 ·have:=List.mem_range.1 h;omega
theorem zg9 {n t:Nat}(h:n≤3):(src n t).length≤3:=by
 unfold src;split
 ·simp
 ·simpa using h
theorem nums_ex {m:Mdl}(hv:vmB m=true)(cs:List Nat)(hc:∀ c∈cs,c≤m.words.length)(ws:List Str)(hl:cs.length=ws.length):
 ∃ N E b DN DE Df,Nums m cs N E b DN DE Df∧(smallB m ws=true→10 ^ 4*(YY DN DE cs.length*Df)<10 ^ 400):=by
 obtain⟨hN,hE⟩:=zgV hv
 let LN:Nat→List Str:=fun t=>(src m.tags.length t).flatMap fun i=>(List.range m.tags.length).map fun j=>nx m i j
 let LE:Nat→List Str:=fun t=>(List.range m.tags.length).map fun j=>em m j (cs.getD t 0)
 let Lf:List Str:=(src m.tags.length cs.length).map fun i=>nx m i m.tags.length
 have hc':∀ t,cs.getD t 0≤m.words.length:=fun t=>by
  rw [List.getD_eq_getElem?_getD];rcases Nat.lt_or_ge t cs.length with h|h
  ·rw [List.getElem?_eq_getElem h];exact hc _ (List.getElem_mem _)
  ·rw [List.getElem?_eq_none h];exact Nat.zero_le _
 have pN:∀ t,∀ a∈LN t,p01 a=true∧(zhc m.next=true→a.countP (· ≠47)≤4):=fun t a ha=>by simp only [LN,List.mem_flatMap,List.mem_map,List.mem_range]at ha;obtain⟨i,hi,j,hj,rfl⟩:=ha;have:=zql hi;exact zhD hN (by omega) (by omega)
 have pE:∀ t,∀ a∈LE t,p01 a=true∧(zhc m.emit=true→a.countP (· ≠47)≤4):=fun t a ha=>by simp only [LE,List.mem_map,List.mem_range]at ha;obtain⟨j,hj,rfl⟩:=ha;have:=hc' t;exact zhD hE (by omega) (by omega)
 have pF:∀ a∈Lf,p01 a=true∧(zhc m.next=true→a.countP (· ≠47)≤4):=fun a ha=>by simp only [Lf,List.mem_map]at ha;obtain⟨i,hi,rfl⟩:=ha;have:=zql hi;exact zhD hN (by omega) (by omega)
 have dN:=fun t=>zfq (LN t) fun a ha=>(pN t a ha).1
 have dE:=fun t=>zfq (LE t) fun a ha=>(pE t a ha).1
 have dF:=zfq Lf fun a ha=>(pF a ha).1
 obtain⟨VN,vN⟩:∃ f:Nat→Nat,∀ t,0<f t∧(∀ a∈LN t,∃ x,Is a x (f t)∧x≤f t)∧((∀ a∈LN t,a.countP (· ≠47)≤4)→f t≤(10 ^ 4) ^ (LN t).length):=⟨fun t=>Classical.choose (dN t),fun t=>Classical.choose_spec (dN t)⟩
 obtain⟨VE,vE⟩:∃ f:Nat→Nat,∀ t,0<f t∧(∀ a∈LE t,∃ x,Is a x (f t)∧x≤f t)∧((∀ a∈LE t,a.countP (· ≠47)≤4)→f t≤(10 ^ 4) ^ (LE t).length):=⟨fun t=>Classical.choose (dE t),fun t=>Classical.choose_spec (dE t)⟩
 obtain⟨VF,vF⟩:=dF
 refine⟨fun t i j=>numD (nx m i j) (VN t),fun t j=>numD (em m j (cs.getD t 0)) (VE t),fun i=>numD (nx m i m.tags.length) VF,VN,VE,VF,
  ⟨fun t i j ht hi hj=>?_,fun t j ht hj=>?_,fun i hi=>?_,fun t=>(vN t).1,fun t=>(vE t).1,vF.1⟩,fun hs=>?_⟩
 ·refine zoK ((vN t).2.1 _ ?_)
  simp only [LN,List.mem_flatMap,List.mem_map,List.mem_range]
  exact⟨i,hi,j,hj,rfl⟩
 ·refine zoK ((vE t).2.1 _ ?_)
  simp only [LE,List.mem_map,List.mem_range]
  exact⟨j,hj,rfl⟩
 ·refine zoK (vF.2.1 _ ?_)
  simp only [Lf,List.mem_map]
  exact⟨i,hi,rfl⟩
 ·unfold smallB at hs
  simp only [Bool.and_eq_true,decide_eq_true_eq]at hs
  obtain⟨⟨s1,s2⟩,s3,s4⟩:=hs
  have bN:∀ t,VN t≤10 ^ 36:=fun t=>by
   refine Nat.le_trans ((vN t).2.2 fun a ha=>(pN t a ha).2 s3) ?_;have hlen:(LN t).length≤9:=by simp only [LN,List.length_flatMap,List.length_map,List.length_range,List.map_const',List.sum_replicate_nat];exact Nat.mul_le_mul (zg9 s1) s1
   rw [←Nat.pow_mul];exact Nat.pow_le_pow_right (by decide) (by omega)
  have bE:∀ t,VE t≤10 ^ 12:=fun t=>by
   refine Nat.le_trans ((vE t).2.2 fun a ha=>(pE t a ha).2 s4) ?_;have hlen:(LE t).length≤3:=by simpa [LE] using s1
   rw [←Nat.pow_mul];exact Nat.pow_le_pow_right (by decide) (by omega)
  have bF:VF≤10 ^ 12:=by
   refine Nat.le_trans (vF.2.2 fun a ha=>(pF a ha).2 s3) ?_;have hlen:Lf.length≤3:=by simpa [Lf] using zg9 s1
   rw [←Nat.pow_mul];exact Nat.pow_le_pow_right (by decide) (by omega)
  have bY:∀ k,YY VN VE k≤(10 ^ 48) ^ k:=fun k=>by
   induction k with
   |zero=>exact Nat.le_refl _
   |succ k ih=>rw [YY,Nat.pow_succ];refine Nat.mul_le_mul ih ?_;have:=Nat.mul_le_mul (bN k) (bE k);rwa [←Nat.pow_add]at this
  have b1:YY VN VE cs.length≤10 ^ 192:=by refine Nat.le_trans (bY _) ?_;rw [←Nat.pow_mul];exact Nat.pow_le_pow_right (by decide) (by omega)
  have b2:=Nat.mul_le_mul (Nat.le_refl (10 ^ 4)) (Nat.mul_le_mul b1 bF)
  rw [←Nat.pow_add, ←Nat.pow_add]at b2
  refine Nat.lt_of_le_of_lt b2 ?_
  exact Nat.pow_lt_pow_right (a:=10) (m:=4+(192+12)) (n:=400) (by decide) (by decide)
end Go.Proofs
