/- The likeliest lists of tags, without any text: going forward word by word gives what trying all lists gives. -/
import Derived.Test.YthbimeikbkjnkaaGreatDoorQRat6
import Derived.Test.YthbimeikbkjnkaaGreatDoorVM4
set_option linter.all false
namespace Go.Tg
def lexLt:List Nat→List Nat→Bool
 |[],[]=>false
 |[],_::_=>true
 |_::_,[]=>false
 |x::a,y::b=>decide (x<y)||(decide (x=y)&&lexLt a b)
abbrev Cand:=Nat×List Nat
def better(x y:Cand):Cand:=if x.1<y.1∨(x.1=y.1∧y.1≠0∧lexLt y.2 x.2=true)then y else x
def stp(x:Cand)(w:Nat)(j:List Nat):Cand:=if x.1*w=0 then(0,[])else(x.1*w,x.2++j)
structure Best(S:Nat→List Nat→Prop)(x:Cand):Prop where
 z:x.1=0→x.2=[]
 i:x.1≠0→S x.1 x.2
 b:∀ w L,S w L→w≤x.1∧(w=x.1→x.1≠0→lexLt L x.2=false)
section
variable(n:Nat)(a:Nat→Nat→Nat→Nat)(b:Nat→Nat)
def src(t:Nat):List Nat:=if t=0 then [n]else List.range n
def fw:Nat→Nat→Cand
 |0,_=>(1,[])
 |t+1,j=>(src n t).foldl (fun v i=>better v (stp (fw t i) (a t i j) [j])) (0,[])
def fin(T:Nat):Cand:=(src n T).foldl (fun v i=>better v (stp (fw n a T i) (b i) [])) (0,[])
def sfw:Nat→Nat→Nat
 |0,_=>1
 |t+1,j=>(src n t).foldl (fun v i=>v+sfw t i*a t i j) 0
def sfin(T:Nat):Nat:=(src n T).foldl (fun v i=>v+sfw n a T i*b i) 0
def lastOf(L:List Nat)(k:Nat):Nat:=if k=0 then n else L.getD (k - 1) 0
def pw(L:List Nat):Nat→Nat
 |0=>1
 |k+1=>pw L k*a k (lastOf n L k) (L.getD k 0)
def wt(L:List Nat)(T:Nat):Nat:=pw n a L T*b (lastOf n L T)
def LL:Nat→List (List Nat)
 |0=>[[]]
 |t+1=>(LL t).flatMap fun l=>(List.range n).map fun j=>l++[j]
theorem zjs:∀ t,∀ l∈LL n t,l.length=t
 |0,l,h=>by simp [LL]at h;simp [h]
 |t+1,l,h=>by simp only [LL,List.mem_flatMap,List.mem_map,List.mem_range]at h;obtain⟨l',h1,j,_,rfl⟩:=h;simp [zjs t l' h1]
theorem zq3:∀ t,∀ l∈LL n t,∀ x∈l,x<n
 |0,l,h,x,hx=>by simp [LL]at h;simp [h]at hx
 |t+1,l,h,x,hx=>by
  simp only [LL,List.mem_flatMap,List.mem_map,List.mem_range]at h;obtain⟨l',h1,j,hj,rfl⟩:=h;rcases List.mem_append.1 hx with hx|hx
  ·exact zq3 t l' h1 x hx
  ·rw [List.mem_singleton.1 hx];exact hj
theorem zfZ {L:List Nat}{j k:Nat}(h:k<L.length):(L++[j]).getD k 0=L.getD k 0:=by simp only [List.getD_eq_getElem?_getD,List.getElem?_append_left h]
theorem zf0 {L:List Nat}{j:Nat}:(L++[j]).getD L.length 0=j:=by simp [List.getD_eq_getElem?_getD]
theorem zma {L:List Nat}{j k:Nat}(h:k≤L.length):lastOf n (L++[j]) k=lastOf n L k:=by
 unfold lastOf;split
 ·rfl
 ·exact zfZ (by omega)
theorem last_new {L:List Nat}{j t:Nat}(h:L.length=t):lastOf n (L++[j]) (t+1)=j:=by unfold lastOf;rw [if_neg (by omega), ←h];exact zf0
theorem zvI {L:List Nat}{j:Nat}:∀ k,k≤L.length→pw n a (L++[j]) k=pw n a L k
 |0,_=>rfl
 |k+1,h=>by rw [pw,pw,zvI k (by omega),zma n (by omega),zfZ (by omega)]
theorem pw_new {L:List Nat}{j t:Nat}(h:L.length=t):pw n a (L++[j]) (t+1)=pw n a L t*a t (lastOf n L t) j:=by rw [pw,zvI n a t (by omega),zma n (by omega)];congr 2;rw [←h];exact zf0
def all(w:List Nat→Nat)(l:List (List Nat)):Cand:=l.foldl (fun m L=>if m.1<w L then(w L,L)else m) (0,[])
theorem zb7 {ι:Type}(f:ι→Nat):∀(l:List ι) (x:Nat),l.foldl (fun v i=>v+f i) x=x+(l.map f).sum
 |[],x=>by simp
 |i::l,x=>by rw [List.foldl_cons,zb7 f l];simp;omega
theorem sum_swap {ι κ:Type}(f:ι→κ→Nat)(l:List ι)(m:List κ):(l.map fun i=>(m.map fun j=>f i j).sum).sum=(m.map fun j=>(l.map fun i=>f i j).sum).sum:=by
 induction l with
 |nil=>
  simp only [List.map_nil,List.sum_nil];induction m with
  |nil=>rfl
  |cons j m ih=>simp only [List.map_cons,List.sum_cons];omega
 |cons i l ih=>
  simp only [List.map_cons,List.sum_cons];rw [ih];clear ih;induction m with
  |nil=>simp
  |cons j m ih=>simp only [List.map_cons,List.sum_cons]at ih ⊢;omega
theorem sum_mul {ι:Type}(f:ι→Nat)(c:Nat)(l:List ι):(l.map f).sum*c=(l.map fun i=>f i*c).sum:=by
 induction l with
 |nil=>simp
 |cons i l ih=>simp only [List.map_cons,List.sum_cons,Nat.add_mul,ih]
theorem zwn {ι:Type}(f:ι→Nat)(c:Nat)(l:List ι):c*(l.map f).sum=(l.map fun i=>c*f i).sum:=by
 induction l with
 |nil=>simp
 |cons i l ih=>simp only [List.map_cons,List.sum_cons,Nat.mul_add,ih]
theorem sum_flat {ι κ:Type}(f:κ→Nat)(g:ι→List κ)(l:List ι):((l.flatMap g).map f).sum=(l.map fun i=>((g i).map f).sum).sum:=by
 induction l with
 |nil=>simp
 |cons i l ih=>simp [ih]
theorem zva:∀(t:Nat) (g:Nat→Nat),((LL n t).map fun L=>pw n a L t*g (lastOf n L t)).sum=((src n t).map fun i=>sfw n a t i*g i).sum
 |0,g=>by simp [LL,src,pw,lastOf,sfw]
 |t+1,g=>by
  have e1:((LL n (t+1)).map fun L=>pw n a L (t+1)*g (lastOf n L (t+1))).sum=((LL n t).map fun L=>pw n a L t*((List.range n).map fun j=>a t (lastOf n L t) j*g j).sum).sum:=by rw [LL,sum_flat];congr 1;refine List.map_congr_left fun L hL=>?_;rw [List.map_map,zwn];congr 1;refine List.map_congr_left fun j hj=>?_;have hl:=zjs n t L hL;show pw n a (L++[j]) (t+1)*g (lastOf n (L++[j]) (t+1))=_;rw [pw_new n a hl,last_new n hl,Nat.mul_assoc]
  have e2:=zva t fun i=>((List.range n).map fun j=>a t i j*g j).sum;rw [e1,e2];have e3:src n (t+1)=List.range n:=by simp [src]
  rw [e3];simp only [zwn];rw [sum_swap];congr 1;refine List.map_congr_left fun j _=>?_;rw [sfw,zb7,Nat.zero_add,sum_mul];congr 1;exact List.map_congr_left fun i _=>by rw [Nat.mul_assoc]
theorem zpQ(T:Nat):sfin n a b T=(LL n T).foldl (fun v L=>v+wt n a b L T) 0:=by rw [sfin,zb7,zb7,Nat.zero_add,Nat.zero_add, ←zva];rfl
end
end Go.Tg

namespace Go.Proofs
open Go.Ab Go.Cnt Go.Pl Go.Tg
def nx(m:Mdl)(i j:Nat):Str:=(nthR m.next i).getD j []
def em(m:Mdl)(j c:Nat):Str:=(nthR m.emit j).getD c []
section
variable {β:Type}(st:Int→β→List Nat→Str→β×Int)(pl:Int→β→β→β×Int)(m:Mdl)(none first:β)
def one(f:Int)(v u:β)(j:List Nat)(a b:Str):β×Int:=pl (st (tm f a b).2 u j (tm f a b).1).2 v (st (tm f a b).2 u j (tm f a b).1).1
def one'(f:Int)(v u:β)(a:Str):β×Int:=pl (st f u [] a).2 v (st f u [] a).1
def row1(bef:Nat→Option β)(j c:Nat)(f:Int):Nat→β×Int
 |0=>(none,f)
 |k+1=>match bef k with
  |some u=>one st pl (row1 bef j c f k).2 (row1 bef j c f k).1 u [j] (nx m k j) (em m j c)
  | .none=>row1 bef j c f k
def rowK(bef:Nat→Option β)(c:Nat)(f:Int):Nat→List β×Int
 |0=>([],f)
 |j+1=>((rowK bef c f j).1++[(row1 st pl m none bef j c (rowK bef c f j).2 (m.tags.length+1)).1],(row1 st pl m none bef j c (rowK bef c f j).2 (m.tags.length+1)).2)
def befT(t:Nat)(l:List β):Nat→Option β:=fun i=>if t=0 then(if i=m.tags.length then some first else .none)else l[i]?
def fwdT(cs:List Nat):Nat→List β×Int
 |0=>([],0)
 |t+1=>rowK st pl m none (befT m first t (fwdT cs t).1) (cs.getD t 0) (fwdT cs t).2 m.tags.length
def fin1(bef:Nat→Option β)(f:Int):Nat→β×Int
 |0=>(none,f)
 |k+1=>match bef k with
  |some u=>one' st pl (fin1 bef f k).2 (fin1 bef f k).1 u (nx m k m.tags.length)
  | .none=>fin1 bef f k
def finT(cs:List Nat):β×Int:=fin1 st pl m none (befT m first cs.length (fwdT st pl m none first cs cs.length).1) (fwdT st pl m none first cs cs.length).2 (m.tags.length+1)
end
def stS(f:Int)(u:Str)(_:List Nat)(p:Str):Str×Int:=tm f u p
def Oc(B:Prop)(f:Int)(good:Prop):Prop:=(f=0∧good)∨(f=2∧¬B)
theorem kn_two(r:Str×Int):(kn 2 r).2=2:=by unfold kn;split<;>rfl
theorem tm_oc {B:Prop}{a b:Str}{x y u v:Nat}(ha:Is a x y)(hb:Is b u v)(h:B→x*u<10 ^ 400∧y*v<10 ^ 400):Oc B (tm 0 a b).2 (Is (tm 0 a b).1 (x*u) (y*v)):=by
 unfold tm kn;rcases zvN ha hb with⟨e,hi⟩|⟨e,hn⟩
 ·rw [if_neg (by simp [e])];exact .inl ⟨rfl,hi⟩
 ·rw [if_pos (by simp [e])];exact .inr ⟨e,fun hB=>hn (h hB)⟩
theorem ps_oc {B:Prop}{a b:Str}{x u y:Nat}(ha:Is a x y)(hb:Is b u y)(h:B→x+u<10 ^ 400∧y<10 ^ 400):Oc B (ps 0 a b).2 (Is (ps 0 a b).1 (x+u) y):=by
 unfold ps kn;rcases zvU ha hb with⟨e,hi⟩|⟨e,hn⟩
 ·rw [if_neg (by simp [e])];exact .inl ⟨rfl,hi⟩
 ·rw [if_pos (by simp [e])];exact .inr ⟨e,fun hB=>hn (h hB)⟩
theorem one_zero:Is [48] 0 1:=Is.dec (n:=0) (by decide)
theorem zou {y:Nat}(h:0<y):Is [48] 0 y:=one_zero.eq h (by simp)
theorem is_one:Is [49] 1 1:=Is.dec (n:=1) (by decide)
theorem zlk(a b:Str):(tm 2 a b).2=2:=kn_two _
structure Nums(m:Mdl)(cs:List Nat)(N:Nat→Nat→Nat→Nat)(E:Nat→Nat→Nat)(b:Nat→Nat)(DN DE:Nat→Nat)(Df:Nat):Prop where
 n:∀ t i j,t<cs.length→i∈src m.tags.length t→j<m.tags.length→Is (nx m i j) (N t i j) (DN t)∧N t i j≤DN t
 e:∀ t j,t<cs.length→j<m.tags.length→Is (em m j (cs.getD t 0)) (E t j) (DE t)∧E t j≤DE t
 f:∀ i,i∈src m.tags.length cs.length→Is (nx m i m.tags.length) (b i) Df∧b i≤Df
 pn:∀ t,0<DN t
 pe:∀ t,0<DE t
 pf:0<Df
def YY(DN DE:Nat→Nat):Nat→Nat
 |0=>1
 |t+1=>YY DN DE t*(DN t*DE t)
section
variable {m:Mdl}{cs:List Nat}{N:Nat→Nat→Nat→Nat}{E:Nat→Nat→Nat}{b:Nat→Nat}{DN DE:Nat→Nat}{Df:Nat}
abbrev wN(N:Nat→Nat→Nat→Nat)(E:Nat→Nat→Nat):Nat→Nat→Nat→Nat:=fun t i j=>N t i j*E t j
theorem znp(H:Nums m cs N E b DN DE Df):∀ t,0<YY DN DE t
 |0=>Nat.one_pos
 |t+1=>Nat.mul_pos (znp H t) (Nat.mul_pos (H.pn t) (H.pe t))
theorem src_fold {γ:Type}(n t:Nat)(g:γ→Nat→γ)(z:γ):(src n t).foldl g z=(List.range (n+1)).foldl (fun v i=>if i∈src n t then g v i else v) z:=by
 unfold src;split
 ·have:∀ k,k≤n→(List.range k).foldl (fun v i=>if i∈[n]then g v i else v) z=z:=by
   intro k
   induction k with
   |zero=>intro _;rfl
   |succ k ih=>intro hk;rw [List.range_succ,List.foldl_append,ih (by omega)];simp only [List.foldl_cons,List.foldl_nil];rw [if_neg (by simp;omega)]
  rw [List.range_succ,List.foldl_append,this n (Nat.le_refl _)]
  simp
 ·rw [List.range_succ,List.foldl_append];simp only [List.foldl_cons,List.foldl_nil];rw [if_neg (by simp)];have:∀(l:List Nat) (v:γ),(∀ x∈l,x∈List.range n)→l.foldl (fun v i=>if i∈List.range n then g v i else v) v=l.foldl g v:=by
   intro l;induction l with
   |nil=>intro v _;rfl
   |cons x l ih=>intro v h;rw [List.foldl_cons,List.foldl_cons,if_pos (h x (by simp)),ih _ fun y hy=>h y (by simp [hy])]
  exact(this _ _ fun x hx=>hx).symm
theorem zpt(H:Nums m cs N E b DN DE Df){s t:Nat}(h:s≤t):YY DN DE s≤YY DN DE t:=by
 induction t with
 |zero=>rw [Nat.le_zero.1 h];exact Nat.le_refl _
 |succ t ih=>
  rcases Nat.lt_or_ge s (t+1)with k|k
  ·refine Nat.le_trans (ih (by omega)) ?_;exact Nat.le_mul_of_pos_right _ (Nat.mul_pos (H.pn t) (H.pe t))
  ·rw [Nat.le_antisymm h k];exact Nat.le_refl _
theorem DD_le(H:Nums m cs N E b DN DE Df)(t:Nat):DN t*DE t≤YY DN DE (t+1):=Nat.le_mul_of_pos_left _ (znp H t)
theorem zeW {β:Type}(st:Int→β→List Nat→Str→β×Int)(pl:Int→β→β→β×Int)(m:Mdl)(none:β)(bef:Nat→Option β)(c:Nat)(f:Int):∀ k,(rowK st pl m none bef c f k).1.length=k
 |0=>rfl
 |k+1=>by rw [rowK,List.length_append,zeW st pl m none bef c f k];rfl
end
end Go.Proofs

namespace Go.Proofs
open Go.Ab Go.Cnt Go.Pl Go.Tg
def zlM(m:Mdl)(cs js:List Nat)(k:Nat):Str×Int:=pmul (nx m (lastOf m.tags.length js k) (js.getD k 0)) (em m (js.getD k 0) (cs.getD k 0))
def prR(m:Mdl)(cs js:List Nat):Nat→Str×Int
 |0=>([49],0)
 |k+1=>if (prR m cs js k).2≠0 then([],(prR m cs js k).2)else if (zlM m cs js k).2≠0 then([],(zlM m cs js k).2)else pmul (prR m cs js k).1 (zlM m cs js k).1
def prob(m:Mdl)(cs js:List Nat):Str×Int:=if (prR m cs js cs.length).2≠0 then([],(prR m cs js cs.length).2)else pmul (prR m cs js cs.length).1 (nx m (lastOf m.tags.length js cs.length) m.tags.length)
theorem zn4 {B:Prop}{a b:Str}{x y u v:Nat}(ha:Is a x y)(hb:Is b u v)(h:B→x*u<10 ^ 400∧y*v<10 ^ 400):Oc B (pmul a b).2 (Is (pmul a b).1 (x*u) (y*v)):=by
 rcases zvN ha hb with⟨e,hi⟩|⟨e,hn⟩
 ·exact .inl ⟨e,hi⟩
 ·exact .inr ⟨e,fun hB=>hn (h hB)⟩
section
variable {m:Mdl}{cs:List Nat}{N:Nat→Nat→Nat→Nat}{E:Nat→Nat→Nat}{b:Nat→Nat}{DN DE:Nat→Nat}{Df:Nat}
theorem zfL {L:List Nat}{T k:Nat}(hL:L∈LL m.tags.length T)(hk:k≤T):lastOf m.tags.length L k∈src m.tags.length k:=by
 unfold lastOf src;by_cases h:k=0
 ·rw [if_pos h,if_pos h];simp
 ·rw [if_neg h,if_neg h,List.mem_range];have hl:=zjs _ _ _ hL;refine zq3 _ _ _ hL _ ?_;rw [List.getD_eq_getElem?_getD,List.getElem?_eq_getElem (by omega)];exact List.getElem_mem _
theorem getD_lt {L:List Nat}{T k:Nat}(hL:L∈LL m.tags.length T)(hk:k<T):L.getD k 0<m.tags.length:=by have hl:=zjs _ _ _ hL;refine zq3 _ _ _ hL _ ?_;rw [List.getD_eq_getElem?_getD,List.getElem?_eq_getElem (by omega)];exact List.getElem_mem _
theorem pw_le(H:Nums m cs N E b DN DE Df){L:List Nat}(hL:L∈LL m.tags.length cs.length):∀ k,k≤cs.length→pw m.tags.length (wN N E) L k≤YY DN DE k
 |0,_=>Nat.le_refl _
 |k+1,hk=>by have h1:=zfL hL (show k≤cs.length by omega);have h2:=getD_lt hL (show k<cs.length by omega);rw [pw];exact Nat.mul_le_mul (pw_le H hL k (by omega)) (Nat.mul_le_mul (H.n k _ _ (by omega) h1 h2).2 (H.e k _ (by omega) h2).2)
theorem prR_oc {B:Prop}(H:Nums m cs N E b DN DE Df)(hB:B→YY DN DE cs.length*Df<10 ^ 400){L:List Nat}(hL:L∈LL m.tags.length cs.length):
 ∀ k,k≤cs.length→Oc B (prR m cs L k).2 (Is (prR m cs L k).1 (pw m.tags.length (wN N E) L k) (YY DN DE k))
 |0,_=>.inl ⟨rfl,is_one⟩
 |k+1,hk=>by
  have h1:=zfL hL (show k≤cs.length by omega);have h2:=getD_lt hL (show k<cs.length by omega);obtain⟨n1,n2⟩:=H.n k _ _ (by omega) h1 h2;obtain⟨e1,e2⟩:=H.e k _ (by omega) h2;have hYT:B→YY DN DE (k+1)<10 ^ 400:=fun hb=>by have k1:=zpt H (s:=k+1) (t:=cs.length) (by omega);have k2:=Nat.le_mul_of_pos_right (YY DN DE cs.length) H.pf;exact Nat.lt_of_le_of_lt (Nat.le_trans k1 k2) (hB hb)
  rw [prR];rcases prR_oc H hB hL k (by omega)with⟨e,hi⟩|⟨e,hn⟩
  ·rw [if_neg (by simp [e])];have hq:Oc B (zlM m cs L k).2 _:=zn4 n1 e1 (fun hb=>⟨Nat.lt_of_le_of_lt (Nat.le_trans (Nat.mul_le_mul n2 e2) (DD_le H k)) (hYT hb),Nat.lt_of_le_of_lt (DD_le H k) (hYT hb)⟩);rcases hq with⟨e3,hi3⟩|⟨e3,hn⟩
   ·rw [if_neg (by simp [e3])];refine zn4 hi hi3 fun hb=>⟨?_,hYT hb⟩;exact Nat.lt_of_le_of_lt (Nat.mul_le_mul (pw_le H hL k (by omega)) (Nat.mul_le_mul n2 e2)) (hYT hb)
   ·rw [if_pos (by simp [e3])];exact .inr ⟨e3,hn⟩
  ·rw [if_pos (by simp [e])];exact .inr ⟨e,hn⟩
theorem prob_oc {B:Prop}(H:Nums m cs N E b DN DE Df)(hB:B→YY DN DE cs.length*Df<10 ^ 400){L:List Nat}(hL:L∈LL m.tags.length cs.length):
 Oc B (prob m cs L).2 (Is (prob m cs L).1 (wt m.tags.length (wN N E) b L cs.length) (YY DN DE cs.length*Df)):=by
 have h1:=zfL hL (Nat.le_refl cs.length)
 obtain⟨n1,n2⟩:=H.f _ h1
 unfold prob
 rcases prR_oc H hB hL cs.length (Nat.le_refl _)with⟨e,hi⟩|⟨e,hn⟩
 ·rw [if_neg (by simp [e])]
  refine zn4 hi n1 fun hb=>⟨?_,hB hb⟩
  exact Nat.lt_of_le_of_lt (Nat.mul_le_mul (pw_le H hL _ (Nat.le_refl _)) n2) (hB hb)
 ·rw [if_pos (by simp [e])]
  exact .inr ⟨e,hn⟩
end
theorem zfj:∀ L:List Str,(∀ a∈L,p01 a=true)→∃ D,0<D∧(∀ a∈L,∃ x,Is a x D∧x≤D)∧((∀ a∈L,a.countP (· ≠47)≤4)→D≤(10 ^ 4) ^ L.length)
 |[],_=>⟨1,Nat.one_pos,fun a h=>by simp at h,fun _=>by simp⟩
 |a::L,h=>by
  obtain⟨D,h1,h2,h3⟩:=zfj L fun x hx=>h x (by simp [hx]);obtain⟨n,d,hi,hn,hr⟩:=p01_is (h a (by simp));have hd:=hi.1;refine⟨d*D,Nat.mul_pos hd h1,fun x hx=>?_,fun hs=>?_⟩
  ·rcases List.mem_cons.1 hx with rfl|hx
   ·exact⟨n*D,hi.eq (Nat.mul_pos hd h1) (by ac_rfl),Nat.mul_le_mul_right _ hn⟩
   ·obtain⟨y,hy,hyl⟩:=h2 x hx;refine⟨y*d,hy.eq (Nat.mul_pos hd h1) (by ac_rfl),?_⟩;rw [Nat.mul_comm d D];exact Nat.mul_le_mul_right _ hyl
  ·have l1:=zrY hr (hs a (by simp));have l2:=h3 fun x hx=>hs x (by simp [hx]);rw [List.length_cons,Nat.pow_succ,Nat.mul_comm];exact Nat.mul_le_mul l2 (by omega)
def zcY(l:List (List Str)):Bool:=l.all fun r=>r.all fun s=>decide (s.countP (· ≠47)≤4)
def zcV(m:Mdl)(ws:List Str):Bool:=decide (m.tags.length≤3)&&decide (ws.length≤4)&&(zcY m.next&&zcY m.emit)
theorem zom {M:List (List Str)}{r w i j:Nat}(h:matB M r w=true)(hi:i<r)(hj:j<w):p01 ((nthR M i).getD j [])=true∧(zcY M=true→((nthR M i).getD j []).countP (· ≠47)≤4):=by unfold matB at h;simp only [Bool.and_eq_true,decide_eq_true_eq,List.all_eq_true]at h;have hm:nthR M i∈M:=rowR.nth_mem (by omega);have h2:=h.2 _ hm;unfold zcf at h2;simp only [Bool.and_eq_true,decide_eq_true_eq,List.all_eq_true]at h2;have hx:(nthR M i).getD j []∈nthR M i:=zch (by omega);refine⟨h2.2 _ hx,fun hs=>?_⟩;unfold zcY at hs;simp only [List.all_eq_true,decide_eq_true_eq]at hs;exact hs _ hm _ hx
theorem zli {m:Mdl}(h:vmB m=true):matB m.next (m.tags.length+1) (m.tags.length+1)=true∧matB m.emit m.tags.length (m.words.length+1)=true:=by unfold vmB at h;simp only [Bool.and_eq_true]at h;exact⟨h.2.2.2.2.2.1,h.2.2.2.2.2.2⟩
noncomputable def numD(a:Str)(D:Nat):Nat:=open Classical in if h:∃ x,Is a x D∧x≤D then Classical.choose h else 0
theorem zof {a:Str}{D:Nat}(h:∃ x,Is a x D∧x≤D):Is a (numD a D) D∧numD a D≤D:=by unfold numD;rw [dif_pos h];exact Classical.choose_spec h
theorem src_le {n t i:Nat}(h:i∈src n t):i≤n:=by
 unfold src at h;split at h
 ·rw [List.mem_singleton.1 h];exact Nat.le_refl _
 ·have:=List.mem_range.1 h;omega
theorem zjM {n t:Nat}(h:n≤3):(src n t).length≤3:=by
 unfold src;split
 ·simp
 ·simpa using h
theorem nums_ex {m:Mdl}(hv:vmB m=true)(cs:List Nat)(hc:∀ c∈cs,c≤m.words.length)(ws:List Str)(hl:cs.length=ws.length):
 ∃ N E b DN DE Df,Nums m cs N E b DN DE Df∧(zcV m ws=true→10 ^ 4*(YY DN DE cs.length*Df)<10 ^ 400):=by
 obtain⟨hN,hE⟩:=zli hv
 let LN:Nat→List Str:=fun t=>(src m.tags.length t).flatMap fun i=>(List.range m.tags.length).map fun j=>nx m i j
 let LE:Nat→List Str:=fun t=>(List.range m.tags.length).map fun j=>em m j (cs.getD t 0)
 let Lf:List Str:=(src m.tags.length cs.length).map fun i=>nx m i m.tags.length
 have hc':∀ t,cs.getD t 0≤m.words.length:=fun t=>by
  rw [List.getD_eq_getElem?_getD];rcases Nat.lt_or_ge t cs.length with h|h
  ·rw [List.getElem?_eq_getElem h];exact hc _ (List.getElem_mem _)
  ·rw [List.getElem?_eq_none h];exact Nat.zero_le _
 have pN:∀ t,∀ a∈LN t,p01 a=true∧(zcY m.next=true→a.countP (· ≠47)≤4):=fun t a ha=>by simp only [LN,List.mem_flatMap,List.mem_map,List.mem_range]at ha;obtain⟨i,hi,j,hj,rfl⟩:=ha;have:=src_le hi;exact zom hN (by omega) (by omega)
 have pE:∀ t,∀ a∈LE t,p01 a=true∧(zcY m.emit=true→a.countP (· ≠47)≤4):=fun t a ha=>by simp only [LE,List.mem_map,List.mem_range]at ha;obtain⟨j,hj,rfl⟩:=ha;have:=hc' t;exact zom hE (by omega) (by omega)
 have pF:∀ a∈Lf,p01 a=true∧(zcY m.next=true→a.countP (· ≠47)≤4):=fun a ha=>by simp only [Lf,List.mem_map]at ha;obtain⟨i,hi,rfl⟩:=ha;have:=src_le hi;exact zom hN (by omega) (by omega)
 have dN:=fun t=>zfj (LN t) fun a ha=>(pN t a ha).1
 have dE:=fun t=>zfj (LE t) fun a ha=>(pE t a ha).1
 have dF:=zfj Lf fun a ha=>(pF a ha).1
 obtain⟨VN,vN⟩:∃ f:Nat→Nat,∀ t,0<f t∧(∀ a∈LN t,∃ x,Is a x (f t)∧x≤f t)∧((∀ a∈LN t,a.countP (· ≠47)≤4)→f t≤(10 ^ 4) ^ (LN t).length):=⟨fun t=>Classical.choose (dN t),fun t=>Classical.choose_spec (dN t)⟩
 obtain⟨VE,vE⟩:∃ f:Nat→Nat,∀ t,0<f t∧(∀ a∈LE t,∃ x,Is a x (f t)∧x≤f t)∧((∀ a∈LE t,a.countP (· ≠47)≤4)→f t≤(10 ^ 4) ^ (LE t).length):=⟨fun t=>Classical.choose (dE t),fun t=>Classical.choose_spec (dE t)⟩
 obtain⟨VF,vF⟩:=dF
 refine⟨fun t i j=>numD (nx m i j) (VN t),fun t j=>numD (em m j (cs.getD t 0)) (VE t),fun i=>numD (nx m i m.tags.length) VF,VN,VE,VF,
  ⟨fun t i j ht hi hj=>?_,fun t j ht hj=>?_,fun i hi=>?_,fun t=>(vN t).1,fun t=>(vE t).1,vF.1⟩,fun hs=>?_⟩
 ·refine zof ((vN t).2.1 _ ?_)
  simp only [LN,List.mem_flatMap,List.mem_map,List.mem_range]
  exact⟨i,hi,j,hj,rfl⟩
 ·refine zof ((vE t).2.1 _ ?_)
  simp only [LE,List.mem_map,List.mem_range]
  exact⟨j,hj,rfl⟩
 ·refine zof (vF.2.1 _ ?_)
  simp only [Lf,List.mem_map]
  exact⟨i,hi,rfl⟩
 ·unfold zcV at hs
  simp only [Bool.and_eq_true,decide_eq_true_eq]at hs
  obtain⟨⟨s1,s2⟩,s3,s4⟩:=hs
  have bN:∀ t,VN t≤10 ^ 36:=fun t=>by
   refine Nat.le_trans ((vN t).2.2 fun a ha=>(pN t a ha).2 s3) ?_;have hlen:(LN t).length≤9:=by simp only [LN,List.length_flatMap,List.length_map,List.length_range,List.map_const',List.sum_replicate_nat];exact Nat.mul_le_mul (zjM s1) s1
   rw [←Nat.pow_mul];exact Nat.pow_le_pow_right (by decide) (by omega)
  have bE:∀ t,VE t≤10 ^ 12:=fun t=>by
   refine Nat.le_trans ((vE t).2.2 fun a ha=>(pE t a ha).2 s4) ?_;have hlen:(LE t).length≤3:=by simpa [LE] using s1
   rw [←Nat.pow_mul];exact Nat.pow_le_pow_right (by decide) (by omega)
  have bF:VF≤10 ^ 12:=by
   refine Nat.le_trans (vF.2.2 fun a ha=>(pF a ha).2 s3) ?_;have hlen:Lf.length≤3:=by simpa [Lf] using zjM s1
   rw [←Nat.pow_mul];exact Nat.pow_le_pow_right (by decide) (by omega)
  have bY:∀ k,YY VN VE k≤(10 ^ 48) ^ k:=fun k=>by
   induction k with
   |zero=>exact Nat.le_refl _
   |succ k ih=>rw [YY,Nat.pow_succ];refine Nat.mul_le_mul ih ?_;have:=Nat.mul_le_mul (bN k) (bE k);rwa [←Nat.pow_add]at this
  have b1:YY VN VE cs.length≤10 ^ 192:=by refine Nat.le_trans (bY _) ?_;rw [←Nat.pow_mul];exact Nat.pow_le_pow_right (by decide) (by omega)
  have b2:=Nat.mul_le_mul (Nat.le_refl (10 ^ 4)) (Nat.mul_le_mul b1 bF)
  rw [←Nat.pow_add, ←Nat.pow_add]at b2
  refine Nat.lt_of_le_of_lt b2 ?_
  exact Nat.pow_lt_pow_right (a:=10) (m:=4+(192+12)) (n:=400) (by decide) (by decide)
end Go.Proofs

namespace Go.Proofs
open Go.Ab Go.Cnt Go.Pl Go.Tg
theorem zmM(m:Mdl)(ws:List Str)(i:Nat)(h:i<ws.length):(zu m ws).getD i 0=idxS m.words (ws.getD i []):=by unfold zu;rw [List.getD_eq_getElem?_getD,List.getD_eq_getElem?_getD,List.getElem?_map,List.getElem?_eq_getElem h];rfl
theorem zmb {n:Nat}{js:List Nat}{k:Nat}(h:∀ j,j<k→js.getD j 0<n):lastOf n js k≤n:=by
 unfold lastOf;split
 ·exact Nat.le_refl _
 ·exact Nat.le_of_lt (h _ (by omega))
theorem zor(n:Nat)(js:List Nat)(k:Nat):lastOf n js (k+1)=js.getD k 0:=by unfold lastOf;rw [if_neg (by omega)];rfl
theorem zpC {m:Mdl}(hv:vmB m=true):m.next.length=m.tags.length+1∧(∀ i,i≤m.tags.length→(nthR m.next i).length=m.tags.length+1)∧m.emit.length=m.tags.length∧(∀ i,i<m.tags.length→(nthR m.emit i).length=m.words.length+1)∧incS m.tags=true∧incS m.words=true:=by
 obtain⟨h1,h2⟩:=zli hv;unfold matB at h1 h2;simp only [Bool.and_eq_true,decide_eq_true_eq,List.all_eq_true]at h1 h2;unfold vmB at hv;simp only [Bool.and_eq_true]at hv;refine⟨h1.1,fun i hi=>?_,h2.1,fun i hi=>?_,hv.2.2.1,hv.2.2.2.1⟩
 ·have:=h1.2 _ (rowR.nth_mem (show i<m.next.length by omega));unfold zcf at this;simp only [Bool.and_eq_true,decide_eq_true_eq]at this;exact this.1
 ·have:=h2.2 _ (rowR.nth_mem (show i<m.emit.length by omega));unfold zcf at this;simp only [Bool.and_eq_true,decide_eq_true_eq]at this;exact this.1
theorem zcF(M:List (List Str))(i:Nat)(h:i<M.length):nthV (zJ M) i=.fs (strs (nthR M i)) (nthR M i).length:=by have:=zjT M i h;rw [←zke,this];rfl
end Go.Proofs
