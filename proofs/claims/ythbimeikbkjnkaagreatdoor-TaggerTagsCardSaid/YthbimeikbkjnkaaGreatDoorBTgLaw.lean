/- The likeliest lists of tags, without any text: going forward word by word gives what trying all lists gives. -/
import Derived.Test.YthbimeikbkjnkaaGreatDoorBQRat6
set_option linter.all false
namespace Go.Tg
def zaO:List Nat→List Nat→Bool
 |[],[]=>false
 |[],_::_=>true
 |_::_,[]=>false
 |x::a,y::b=>decide (x<y)||(decide (x=y)&&zaO a b)
theorem zor:∀ a b:List Nat,zaO a b=true∨a=b∨zaO b a=true
 |[],[]=>.inr (.inl rfl)
 |[],_::_=>.inl rfl
 |_::_,[]=>.inr (.inr rfl)
 |x::a,y::b=>by
  simp only [zaO,Bool.or_eq_true,Bool.and_eq_true,decide_eq_true_eq,List.cons.injEq];rcases Nat.lt_trichotomy x y with h|h|h
  ·exact .inl (.inl h)
  ·subst h;rcases zor a b with h|h|h
   ·exact .inl (.inr ⟨rfl,h⟩)
   ·exact .inr (.inl ⟨rfl,h⟩)
   ·exact .inr (.inr (.inr ⟨rfl,h⟩))
  ·exact .inr (.inr (.inl h))
theorem ze5:∀ {a b c:List Nat},zaO a b=true→zaO b c=true→zaO a c=true
 |[],[],_,h,_=>by simp [zaO]at h
 |[],_::_,[],_,h=>by simp [zaO]at h
 |[],_::_,_::_,_,_=>rfl
 |_::_,[],_,h,_=>by simp [zaO]at h
 |_::_,_::_,[],_,h=>by simp [zaO]at h
 |x::a,y::b,z::c,h,k=>by
  simp only [zaO,Bool.or_eq_true,Bool.and_eq_true,decide_eq_true_eq]at h k ⊢;rcases h with h|⟨rfl,h⟩<;>rcases k with k|⟨rfl,k⟩
  ·exact .inl (by omega)
  ·exact .inl h
  ·exact .inl k
  ·exact .inr ⟨rfl,ze5 h k⟩
theorem zkv:∀ a:List Nat,zaO a a=false
 |[]=>rfl
 |x::a=>by simp [zaO,zkv a]
theorem zqi:∀ {a b:List Nat} (j:List Nat),a.length=b.length→zaO (a++j) (b++j)=zaO a b
 |[],[],j,_=>by simp [zaO,zkv]
 |[],_::_,_,h=>by simp at h
 |_::_,[],_,h=>by simp at h
 |x::a,y::b,j,h=>by simp only [List.cons_append,zaO];rw [zqi j (by simpa using h)]
theorem zmb:∀ {a b:List Nat} (j k:List Nat),a.length=b.length→zaO a b=true→zaO (a++j) (b++k)=true
 |[],[],_,_,_,h=>by simp [zaO]at h
 |[],_::_,_,_,h,_=>by simp at h
 |_::_,[],_,_,h,_=>by simp at h
 |x::a,y::b,j,k,h,h1=>by
  simp only [List.cons_append,zaO,Bool.or_eq_true,Bool.and_eq_true,decide_eq_true_eq]at h1 ⊢;rcases h1 with h1|⟨h1,h2⟩
  ·exact .inl h1
  ·exact .inr ⟨h1,zmb j k (by simpa using h) h2⟩
theorem zwR:∀(a:List Nat) (j k:Nat),zaO (a++[j]) (a++[k])=decide (j<k)
 |[],j,k=>by simp [zaO]
 |x::a,j,k=>by simp [zaO,zwR a]
abbrev Cand:=Nat×List Nat
def better(x y:Cand):Cand:=if x.1<y.1∨(x.1=y.1∧y.1≠0∧zaO y.2 x.2=true)then y else x
def stp(x:Cand)(w:Nat)(j:List Nat):Cand:=if x.1*w=0 then(0,[])else(x.1*w,x.2++j)
structure Best(S:Nat→List Nat→Prop)(x:Cand):Prop where
 z:x.1=0→x.2=[]
 i:x.1≠0→S x.1 x.2
 b:∀ w L,S w L→w≤x.1∧(w=x.1→x.1≠0→zaO L x.2=false)
theorem Best.unique {S:Nat→List Nat→Prop}{x y:Cand}(hx:Best S x)(hy:Best S y):x=y:=by
 have le:∀ {x y:Cand},Best S x→Best S y→x.1≤y.1:=fun {x y} hx hy=>by
  by_cases h:x.1=0
  ·omega
  ·exact(hy.b _ _ (hx.i h)).1
 have e:x.1=y.1:=Nat.le_antisymm (le hx hy) (le hy hx);refine Prod.ext e ?_;by_cases h:x.1=0
 ·rw [hx.z h,hy.z (by omega)]
 ·have h1:=(hy.b _ _ (hx.i h)).2 e (by omega);have h2:=(hx.b _ _ (hy.i (by omega))).2 e.symm h;rcases zor x.2 y.2 with k|k|k
  ·rw [k]at h1;cases h1
  ·exact k
  ·rw [k]at h2;cases h2
theorem Best.iff {S T:Nat→List Nat→Prop}{x:Cand}(h:Best S x)(e:∀ w L,S w L↔T w L):Best T x:=
 ⟨h.z,fun hx=>(e _ _).1 (h.i hx),fun w L hw=>h.b w L ((e _ _).2 hw)⟩
theorem best_none:Best (fun _ _=>False) (0,[]):=⟨fun _=>rfl,fun h=>absurd rfl h,fun _ _ h=>h.elim⟩
theorem zpj {S T:Nat→List Nat→Prop}{x y:Cand}(hx:Best S x)(hy:Best T y):Best (fun w L=>S w L∨T w L) (better x y):=by
 unfold better;split
 ·rename_i h;refine⟨hy.z,fun k=>.inr (hy.i k),fun w L hw=>?_⟩;rcases hw with hw|hw
  ·obtain⟨h1,h2⟩:=hx.b w L hw;refine⟨by omega,fun e hn=>?_⟩;rcases h with h|⟨h3,_,h4⟩
   ·omega
   ·have h5:=h2 (by omega) (by omega);cases h6:zaO L y.2 with
    |false=>rfl
    |true=>rw [ze5 h6 h4]at h5;cases h5
  ·exact hy.b w L hw
 ·rename_i h;refine⟨hx.z,fun k=>.inl (hx.i k),fun w L hw=>?_⟩;rcases hw with hw|hw
  ·exact hx.b w L hw
  ·obtain⟨h1,h2⟩:=hy.b w L hw;refine⟨by omega,fun e hn=>?_⟩;have e1:x.1=y.1:=by omega
   have h3:=h2 (by omega) (by omega);cases h6:zaO L x.2 with
   |false=>rfl
   |true=>
    exfalso;apply h;refine .inr ⟨e1,by omega,?_⟩;rcases zor y.2 x.2 with k|k|k
    ·exact k
    ·rw [k,h6]at h3;cases h3
    ·rw [ze5 h6 k]at h3;cases h3
theorem zrb {S:Nat→List Nat→Prop}{x:Cand}{m:Nat}(hx:Best S x)(hm:∀ w L,S w L→L.length=m)(w:Nat)(j:List Nat):
 Best (fun w' L'=>∃ v L,S v L∧w'=v*w∧L'=L++j) (stp x w j):=by
 unfold stp
 split
 ·rename_i h
  refine⟨fun _=>rfl,fun k=>absurd rfl k,fun w' L' ⟨v,L,h1,h2,_⟩=>⟨?_,fun _ k=>absurd rfl k⟩⟩
  have:=Nat.mul_le_mul_right w (hx.b v L h1).1
  show w'≤0
  omega
 ·rename_i h
  have hx0:x.1≠0:=fun e=>h (by rw [e,Nat.zero_mul])
  have hw0:w≠0:=fun e=>h (by rw [e,Nat.mul_zero])
  refine⟨fun k=>absurd k h,fun _=>⟨_,_,hx.i hx0,rfl,rfl⟩,fun w' L' ⟨v,L,h1,h2,h3⟩=>?_⟩
  obtain⟨h4,h5⟩:=hx.b v L h1
  refine⟨?_,fun e _=>?_⟩
  ·rw [h2];exact Nat.mul_le_mul_right w h4
  ·have e':v*w=x.1*w:=by rw [←h2];exact e
   have e2:v=x.1:=Nat.eq_of_mul_eq_mul_right (Nat.pos_of_ne_zero hw0) e'
   rw [h3]
   show zaO (L++j) (x.2++j)=false
   rw [zqi j ((hm v L h1).trans (hm _ _ (hx.i hx0)).symm)]
   exact h5 e2 hx0
theorem zhN {ι:Type}(S:ι→Nat→List Nat→Prop)(f:ι→Cand)(T:Nat→List Nat→Prop):∀(l:List ι) (x:Cand),Best T x→(∀ i∈l,Best (S i) (f i))→
 Best (fun w L=>T w L∨∃ i∈l,S i w L) (l.foldl (fun v i=>better v (f i)) x)
 |[],x,hx,_=>hx.iff fun w L=>⟨.inl,fun h=>h.elim id fun⟨i,h,_⟩=>by simp at h⟩
 |i::l,x,hx,h=>by
  refine(zhN S f _ l (better x (f i)) (zpj hx (h i (by simp))) fun k hk=>h k (by simp [hk])).iff fun w L=>?_;constructor
  ·rintro((h|h)|⟨k,hk,h⟩)
   ·exact .inl h
   ·exact .inr ⟨i,by simp,h⟩
   ·exact .inr ⟨k,by simp [hk],h⟩
  ·rintro(h'|⟨k,hk,h'⟩)
   ·exact .inl (.inl h')
   ·rcases List.mem_cons.1 hk with e|hk
    ·subst e;exact .inl (.inr h')
    ·exact .inr ⟨k,hk,h'⟩
section
variable(n:Nat)(a:Nat→Nat→Nat→Nat)(b:Nat→Nat)
def src(t:Nat):List Nat:=if t=0 then [n]else List.range n
def fw:Nat→Nat→Cand
 |0,_=>(1,[])
 |t+1,j=>(src n t).foldl (fun v i=>better v (stp (fw t i) (a t i j) [j])) (0,[])
def fin(T:Nat):Cand:=(src n T).foldl (fun v i=>better v (stp (fw n a T i) (b i) [])) (0,[])
def lastOf(L:List Nat)(k:Nat):Nat:=if k=0 then n else L.getD (k - 1) 0
def pw(L:List Nat):Nat→Nat
 |0=>1
 |k+1=>pw L k*a k (lastOf n L k) (L.getD k 0)
def wt(L:List Nat)(T:Nat):Nat:=pw n a L T*b (lastOf n L T)
def LL:Nat→List (List Nat)
 |0=>[[]]
 |t+1=>(LL t).flatMap fun l=>(List.range n).map fun j=>l++[j]
theorem zc8:∀ t,∀ l∈LL n t,l.length=t
 |0,l,h=>by simp [LL]at h;simp [h]
 |t+1,l,h=>by simp only [LL,List.mem_flatMap,List.mem_map,List.mem_range]at h;obtain⟨l',h1,j,_,rfl⟩:=h;simp [zc8 t l' h1]
theorem znu:∀ t,∀ l∈LL n t,∀ x∈l,x<n
 |0,l,h,x,hx=>by simp [LL]at h;simp [h]at hx
 |t+1,l,h,x,hx=>by
  simp only [LL,List.mem_flatMap,List.mem_map,List.mem_range]at h;obtain⟨l',h1,j,hj,rfl⟩:=h;rcases List.mem_append.1 hx with hx|hx
  ·exact znu t l' h1 x hx
  ·rw [List.mem_singleton.1 hx];exact hj
theorem LL_lex:∀ t,(LL n t).Pairwise fun x y=>zaO x y=true
 |0=>by simp [LL]
 |t+1=>by
  rw [LL,List.pairwise_flatMap];refine⟨fun l hl=>?_,?_⟩
  ·rw [List.pairwise_map];exact List.pairwise_lt_range.imp fun h=>by rw [zwR];simpa using h
  ·refine(LL_lex t).imp_of_mem fun {x y} hx hy h u hu v hv=>?_;obtain⟨j,_,rfl⟩:=List.mem_map.1 hu;obtain⟨k,_,rfl⟩:=List.mem_map.1 hv;exact zmb _ _ ((zc8 n t x hx).trans (zc8 n t y hy).symm) h
theorem zfY {L:List Nat}{j k:Nat}(h:k<L.length):(L++[j]).getD k 0=L.getD k 0:=by simp only [List.getD_eq_getElem?_getD,List.getElem?_append_left h]
theorem zfZ {L:List Nat}{j:Nat}:(L++[j]).getD L.length 0=j:=by simp [List.getD_eq_getElem?_getD]
theorem zmf {L:List Nat}{j k:Nat}(h:k≤L.length):lastOf n (L++[j]) k=lastOf n L k:=by
 unfold lastOf;split
 ·rfl
 ·exact zfY (by omega)
theorem zkw {L:List Nat}{j t:Nat}(h:L.length=t):lastOf n (L++[j]) (t+1)=j:=by unfold lastOf;rw [if_neg (by omega), ←h];exact zfZ
theorem zvY {L:List Nat}{j:Nat}:∀ k,k≤L.length→pw n a (L++[j]) k=pw n a L k
 |0,_=>rfl
 |k+1,h=>by rw [pw,pw,zvY k (by omega),zmf n (by omega),zfY (by omega)]
theorem pw_new {L:List Nat}{j t:Nat}(h:L.length=t):pw n a (L++[j]) (t+1)=pw n a L t*a t (lastOf n L t) j:=by rw [pw,zvY n a t (by omega),zmf n (by omega)];congr 2;rw [←h];exact zfZ
def Reach(t i w:Nat)(L:List Nat):Prop:=L∈LL n t∧w=pw n a L t∧i=lastOf n L t
theorem zqn {t:Nat}{L:List Nat}(h:L∈LL n t):lastOf n L t∈src n t:=by
 cases t with
 |zero=>simp [lastOf,src]
 |succ t=>simp only [LL,List.mem_flatMap,List.mem_map,List.mem_range]at h;obtain⟨l',h1,j,hj,rfl⟩:=h;rw [zkw n (zc8 n t l' h1)];simpa [src] using hj
theorem zxB:∀ t i,i∈src n t→Best (Reach n a t i) (fw n a t i)
 |0,i,hi=>by
  have hi':i=n:=by simpa [src] using hi
  subst hi';refine⟨fun h=>by simp [fw]at h,fun _=>⟨by simp [LL,fw],rfl,rfl⟩,fun w L h=>?_⟩;obtain⟨h1,h2,_⟩:=h;have hL:L=[]:=by simpa [LL] using h1
  subst hL;rw [h2];exact⟨Nat.le_refl _,fun _ _=>rfl⟩
 |t+1,j,hj=>by
  have hj':j<n:=by simpa [src] using hj
  rw [fw];refine(zhN (fun i w' L'=>∃ v L,Reach n a t i v L∧w'=v*a t i j∧L'=L++[j]) (fun i=>stp (fw n a t i) (a t i j) [j]) _ (src n t) (0,[]) best_none
   fun i hi=>zrb (m:=t) (zxB t i hi) (fun w L h=>zc8 n t L h.1) (a t i j) [j]).iff fun w L=>?_
  constructor
  ·rintro(h|⟨i,hi,v,L',⟨h1,h2,h3⟩,h4,h5⟩)
   ·exact h.elim
   ·have hl:=zc8 n t L' h1;refine⟨?_,?_,?_⟩
    ·rw [LL,List.mem_flatMap,h5];exact⟨L',h1,List.mem_map.2 ⟨j,List.mem_range.2 hj',rfl⟩⟩
    ·rw [h5,pw_new n a hl,h4,h2,h3]
    ·rw [h5,zkw n hl]
  ·rintro⟨h1,h2,h3⟩;simp only [LL,List.mem_flatMap,List.mem_map,List.mem_range]at h1;obtain⟨L',h4,k,hk,rfl⟩:=h1;have hl:=zc8 n t L' h4;rw [zkw n hl]at h3;subst h3;rw [pw_new n a hl]at h2;exact .inr ⟨_,zqn n h4,_,L',⟨h4,rfl,rfl⟩,h2,rfl⟩
theorem fin_best(T:Nat):Best (fun w L=>L∈LL n T∧w=wt n a b L T) (fin n a b T):=by
 unfold fin;refine(zhN (fun i w' L'=>∃ v L,Reach n a T i v L∧w'=v*b i∧L'=L++[]) (fun i=>stp (fw n a T i) (b i) []) _ (src n T) (0,[]) best_none
  fun i hi=>zrb (m:=T) (zxB n a T i hi) (fun w L h=>zc8 n T L h.1) (b i) []).iff fun w L=>?_
 constructor
 ·rintro(h|⟨i,hi,v,L',⟨h1,h2,h3⟩,h4,h5⟩)
  ·exact h.elim
  ·rw [List.append_nil]at h5;subst h5;exact⟨h1,by rw [h4,h2,h3,wt]⟩
 ·rintro⟨h1,h2⟩;exact .inr ⟨_,zqn n h1,_,L,⟨h1,rfl,rfl⟩,h2,(List.append_nil _).symm⟩
def all(w:List Nat→Nat)(l:List (List Nat)):Cand:=l.foldl (fun m L=>if m.1<w L then(w L,L)else m) (0,[])
theorem all_best(w:List Nat→Nat)(l:List (List Nat))(hl:l.Pairwise fun x y=>zaO x y=true):Best (fun v L=>L∈l∧v=w L) (all w l):=by
 have key:∀(l:List (List Nat)) (T:List (List Nat)) (x:Cand),(∀ y∈T,∀ z∈l,zaO y z=true)→l.Pairwise (fun x y=>zaO x y=true)→Best (fun v L=>L∈T∧v=w L) x→
  Best (fun v L=>(L∈T∨L∈l)∧v=w L) (l.foldl (fun m L=>if m.1<w L then(w L,L)else m) x):=by
  intro l
  induction l with
  |nil=>intro T x _ _ h;exact h.iff fun v L=>by simp
  |cons z l ih=>
   intro T x h1 h2 h3
   rw [List.foldl_cons]
   rw [List.pairwise_cons]at h2
   refine(ih (z::T) _ (fun y hy u hu=>?_) h2.2 ?_).iff fun v L=>by
    simp only [List.mem_cons];constructor
    ·rintro⟨(h|h)|h,e⟩
     ·exact⟨.inr (.inl h),e⟩
     ·exact⟨.inl h,e⟩
     ·exact⟨.inr (.inr h),e⟩
    ·rintro⟨h|h|h,e⟩
     ·exact⟨.inl (.inr h),e⟩
     ·exact⟨.inl (.inl h),e⟩
     ·exact⟨.inr h,e⟩
   ·rcases List.mem_cons.1 hy with rfl|hy
    ·exact h2.1 u hu
    ·exact h1 y hy u (List.mem_cons_of_mem _ hu)
   ·split
    ·rename_i h
     refine⟨fun k=>?_,fun _=>⟨by simp,rfl⟩,fun v L ⟨h4,h5⟩=>?_⟩
     ·have:w z=0:=k
      omega
     ·rcases List.mem_cons.1 h4 with rfl|h4
      ·exact⟨by rw [h5];exact Nat.le_refl _,fun _ _=>zkv _⟩
      ·have:=(h3.b v L ⟨h4,h5⟩).1
       refine⟨by show v≤w z;omega,fun e=>?_⟩
       have:v=w z:=e
       omega
    ·rename_i h
     refine⟨h3.z,fun k=>⟨List.mem_cons_of_mem _ (h3.i k).1,(h3.i k).2⟩,fun v L ⟨h4,h5⟩=>?_⟩
     rcases List.mem_cons.1 h4 with rfl|h4
     ·refine⟨by omega,fun e hn=>?_⟩
      have h6:=h1 _ (h3.i hn).1 L (by simp)
      cases h7:zaO L x.2 with
      |false=>rfl
      |true=>
       have h8:=ze5 h6 h7
       rw [zkv]at h8;cases h8
     ·exact h3.b v L ⟨h4,h5⟩
 refine(key l [] (0,[]) (fun y hy=>by simp at hy) hl (best_none.iff fun v L=>by simp)).iff fun v L=>by simp
theorem fin_all(T:Nat):fin n a b T=all (fun L=>wt n a b L T) (LL n T):=
 (fin_best n a b T).unique (all_best _ _ (LL_lex n T))
end
end Go.Tg

namespace Go.Proofs
open Go.Ab Go.Cnt Go.Pl Go.Tg
def nx(m:Mdl)(i j:Nat):Str:=(nthR m.next i).getD j []
def em(m:Mdl)(j c:Nat):Str:=(nthR m.emit j).getD c []
section
variable {β:Type}(st:Int→β→List Nat→Str→β×Int)(pl:Int→β→β→β×Int)(m:Mdl)(none first:β)
def one(f:Int)(v u:β)(j:List Nat)(a b:Str):β×Int:=pl (st (tm f a b).2 u j (tm f a b).1).2 v (st (tm f a b).2 u j (tm f a b).1).1
def one'(f:Int)(v u:β)(a:Str):β×Int:=pl (st f u [] a).2 v (st f u [] a).1
def row1(bef:Nat→Option β)(j c:Nat)(f:Int):Nat→β×Int
 |0=>(none,f)
 |k+1=>match bef k with
  |some u=>one st pl (row1 bef j c f k).2 (row1 bef j c f k).1 u [j] (nx m k j) (em m j c)
  | .none=>row1 bef j c f k
def rowK(bef:Nat→Option β)(c:Nat)(f:Int):Nat→List β×Int
 |0=>([],f)
 |j+1=>((rowK bef c f j).1++[(row1 st pl m none bef j c (rowK bef c f j).2 (m.tags.length+1)).1],(row1 st pl m none bef j c (rowK bef c f j).2 (m.tags.length+1)).2)
def befT(t:Nat)(l:List β):Nat→Option β:=fun i=>if t=0 then(if i=m.tags.length then some first else .none)else l[i]?
def fwdT(cs:List Nat):Nat→List β×Int
 |0=>([],0)
 |t+1=>rowK st pl m none (befT m first t (fwdT cs t).1) (cs.getD t 0) (fwdT cs t).2 m.tags.length
def fin1(bef:Nat→Option β)(f:Int):Nat→β×Int
 |0=>(none,f)
 |k+1=>match bef k with
  |some u=>one' st pl (fin1 bef f k).2 (fin1 bef f k).1 u (nx m k m.tags.length)
  | .none=>fin1 bef f k
def finT(cs:List Nat):β×Int:=fin1 st pl m none (befT m first cs.length (fwdT st pl m none first cs cs.length).1) (fwdT st pl m none first cs cs.length).2 (m.tags.length+1)
end
abbrev TL:=Str×List Nat
def cmpL:List Nat→List Nat→Int
 |[],[]=>0
 |[],_::_=> -1
 |_::_,[]=>1
 |x::a,y::b=>if x<y then -1 else if y<x then 1 else cmpL a b
theorem zyb:∀ a b:List Nat,cmpL a b<0↔zaO a b=true
 |[],[]=>by simp [cmpL,zaO]
 |[],_::_=>by simp [cmpL,zaO]
 |_::_,[]=>by simp [cmpL,zaO]
 |x::a,y::b=>by
  have ih:=zyb a b;unfold cmpL zaO;simp only [Bool.or_eq_true,Bool.and_eq_true,decide_eq_true_eq];by_cases h:x<y
  ·rw [if_pos h];exact⟨fun _=>.inl h,fun _=>by decide⟩
  ·rw [if_neg h];by_cases h':y<x
   ·rw [if_pos h'];constructor
    ·intro k;omega
    ·rintro(k|⟨k,_⟩)<;>omega
   ·rw [if_neg h'];have e:x=y:=by omega
    rw [ih];exact⟨fun k=>.inr ⟨e,k⟩,fun k=>k.elim (fun k=>absurd k h) (·.2)⟩
def betT(a b:TL):TL:=if zaD a.1 b.1<0∨(zaD a.1 b.1=0∧b.1≠[48]∧cmpL b.2 a.2<0)then b else a
def stL(f:Int)(u:TL)(j:List Nat)(p:Str):TL×Int:=if (tm f u.1 p).1=[48]then(((tm f u.1 p).1,[]),(tm f u.1 p).2)else(((tm f u.1 p).1,u.2++j),(tm f u.1 p).2)
def plL(f:Int)(a b:TL):TL×Int:=(betT a b,f)
def Oc(B:Prop)(f:Int)(good:Prop):Prop:=(f=0∧good)∨(f=2∧¬B)
theorem kn_two(r:Str×Int):(kn 2 r).2=2:=by unfold kn;split<;>rfl
theorem tm_oc {B:Prop}{a b:Str}{x y u v:Nat}(ha:Is a x y)(hb:Is b u v)(h:B→x*u<10 ^ 400∧y*v<10 ^ 400):Oc B (tm 0 a b).2 (Is (tm 0 a b).1 (x*u) (y*v)):=by
 unfold tm kn;rcases zv3 ha hb with⟨e,hi⟩|⟨e,hn⟩
 ·rw [if_neg (by simp [e])];exact .inl ⟨rfl,hi⟩
 ·rw [if_pos (by simp [e])];exact .inr ⟨e,fun hB=>hn (h hB)⟩
theorem one_zero:Is [48] 0 1:=Is.dec (n:=0) (by decide)
theorem zox {y:Nat}(h:0<y):Is [48] 0 y:=one_zero.eq h (by simp)
theorem is_one:Is [49] 1 1:=Is.dec (n:=1) (by decide)
def RL(Y:Nat)(x:TL)(c:Cand):Prop:=Is x.1 c.1 Y∧x.2=c.2
theorem zq8 {Y:Nat}{x y:TL}{c d:Cand}(hx:RL Y x c)(hy:RL Y y d):RL Y (betT x y) (better c d):=by
 unfold betT better;have hz:=hy.1.z;have e:(zaD x.1 y.1<0∨(zaD x.1 y.1=0∧y.1≠[48]∧cmpL y.2 x.2<0))↔(c.1<d.1∨(c.1=d.1∧d.1≠0∧zaO d.2 c.2=true)):=by
  rw [zyb,zx7 hx.1 hy.1,hx.2,hy.2,Ne,hz];by_cases h:c.1=d.1
  ·rw [if_pos h];simp [h]
  ·rw [if_neg h];by_cases h':c.1<d.1
   ·rw [if_pos h'];simp [h']
   ·rw [if_neg h'];simp [h,h']
 by_cases h:c.1<d.1∨(c.1=d.1∧d.1≠0∧zaO d.2 c.2=true)
 ·rw [if_pos (e.2 h),if_pos h];exact hy
 ·rw [if_neg (fun k=>h (e.1 k)),if_neg h];exact hx
theorem stL_oc {B:Prop}{Y D w:Nat}{u:TL}{c:Cand}{p:Str}(j:List Nat)(hu:RL Y u c)(hp:Is p w D)(h:B→c.1*w<10 ^ 400∧Y*D<10 ^ 400):Oc B (stL 0 u j p).2 (RL (Y*D) (stL 0 u j p).1 (stp c w j)):=by
 have ho:=tm_oc hu.1 hp h;unfold stL stp;rcases ho with⟨e,hi⟩|⟨e,hn⟩
 ·by_cases hz:c.1*w=0
  ·rw [if_pos hz,if_pos (hi.z.2 hz)];refine .inl ⟨e,?_,rfl⟩;rw [←hz];exact hi
  ·rw [if_neg hz,if_neg (fun k=>hz (hi.z.1 k))];exact .inl ⟨e,hi,by rw [hu.2]⟩
 ·split<;>exact .inr ⟨e,hn⟩
theorem zjK(u:TL)(j:List Nat)(p:Str):(stL 2 u j p).2=2:=by unfold stL;split<;>exact kn_two _
theorem tm_two(a b:Str):(tm 2 a b).2=2:=kn_two _
theorem zp6(v u:TL)(j:List Nat)(a b:Str):(one stL plL 2 v u j a b).2=2:=by show (stL (tm 2 a b).2 u j (tm 2 a b).1).2=2;rw [tm_two,zjK]
theorem oneL_oc {B:Prop}{Y x y p q:Nat}{v u:TL}{cv cu:Cand}{a b:Str}(j:List Nat)(hv:RL (Y*(y*q)) v cv)(hu:RL Y u cu)(ha:Is a x y)(hb:Is b p q)
 (h1:B→x*p<10 ^ 400∧y*q<10 ^ 400) (h2:B→cu.1*(x*p)<10 ^ 400∧Y*(y*q)<10 ^ 400):Oc B (one stL plL 0 v u j a b).2 (RL (Y*(y*q)) (one stL plL 0 v u j a b).1 (better cv (stp cu (x*p) j))):=by
 unfold one plL
 rcases tm_oc ha hb h1 with⟨e,hi⟩|⟨e,hn⟩
 ·rw [e]
  rcases stL_oc j hu hi h2 with⟨e2,hi2⟩|⟨e2,hn2⟩
  ·exact .inl ⟨e2,zq8 hv hi2⟩
  ·exact .inr ⟨e2,hn2⟩
 ·refine .inr ⟨?_,hn⟩
  rw [e];exact zjK _ _ _
structure Nums(m:Mdl)(cs:List Nat)(N:Nat→Nat→Nat→Nat)(E:Nat→Nat→Nat)(b:Nat→Nat)(DN DE:Nat→Nat)(Df:Nat):Prop where
 n:∀ t i j,t<cs.length→i∈src m.tags.length t→j<m.tags.length→Is (nx m i j) (N t i j) (DN t)∧N t i j≤DN t
 e:∀ t j,t<cs.length→j<m.tags.length→Is (em m j (cs.getD t 0)) (E t j) (DE t)∧E t j≤DE t
 f:∀ i,i∈src m.tags.length cs.length→Is (nx m i m.tags.length) (b i) Df∧b i≤Df
 pn:∀ t,0<DN t
 pe:∀ t,0<DE t
 pf:0<Df
def YY(DN DE:Nat→Nat):Nat→Nat
 |0=>1
 |t+1=>YY DN DE t*(DN t*DE t)
theorem zzP {Y:Nat}{c d:Cand}(h:c.1≤Y)(k:d.1≤Y):(better c d).1≤Y:=by unfold better;split<;>assumption
theorem step_le {Y D w:Nat}{c:Cand}(j:List Nat)(h:c.1≤Y)(k:w≤D):(stp c w j).1≤Y*D:=by
 unfold stp;split
 ·exact Nat.zero_le _
 ·exact Nat.mul_le_mul h k
theorem zxC {ι:Type}{Y:Nat}(g:ι→Cand):∀(l:List ι) (c:Cand),c.1≤Y→(∀ i∈l,(g i).1≤Y)→(l.foldl (fun v i=>better v (g i)) c).1≤Y
 |[],c,h,_=>h
 |i::l,c,h,k=>zxC g l _ (zzP h (k i (by simp))) fun i' hi=>k i' (by simp [hi])
section
variable {m:Mdl}{cs:List Nat}{N:Nat→Nat→Nat→Nat}{E:Nat→Nat→Nat}{b:Nat→Nat}{DN DE:Nat→Nat}{Df:Nat}
abbrev wN(N:Nat→Nat→Nat→Nat)(E:Nat→Nat→Nat):Nat→Nat→Nat→Nat:=fun t i j=>N t i j*E t j
theorem zns(H:Nums m cs N E b DN DE Df):∀ t,0<YY DN DE t
 |0=>Nat.one_pos
 |t+1=>Nat.mul_pos (zns H t) (Nat.mul_pos (H.pn t) (H.pe t))
theorem fw_le(H:Nums m cs N E b DN DE Df):∀ t i,t≤cs.length→i∈src m.tags.length t→(fw m.tags.length (wN N E) t i).1≤YY DN DE t
 |0,i,_,_=>Nat.le_refl _
 |t+1,j,ht,hj=>by
  have hj':j<m.tags.length:=by simpa [src] using hj
  rw [fw];refine zxC (fun i=>stp (fw m.tags.length (wN N E) t i) (wN N E t i j) [j]) _ _ (Nat.zero_le _) fun i hi=>?_;exact step_le _ (fw_le H t i (by omega) hi) (Nat.mul_le_mul (H.n t i j (by omega) hi hj').2 (H.e t j (by omega) hj').2)
theorem zpT {γ:Type}(n t:Nat)(g:γ→Nat→γ)(z:γ):(src n t).foldl g z=(List.range (n+1)).foldl (fun v i=>if i∈src n t then g v i else v) z:=by
 unfold src;split
 ·have:∀ k,k≤n→(List.range k).foldl (fun v i=>if i∈[n]then g v i else v) z=z:=by
   intro k
   induction k with
   |zero=>intro _;rfl
   |succ k ih=>intro hk;rw [List.range_succ,List.foldl_append,ih (by omega)];simp only [List.foldl_cons,List.foldl_nil];rw [if_neg (by simp;omega)]
  rw [List.range_succ,List.foldl_append,this n (Nat.le_refl _)]
  simp
 ·rw [List.range_succ,List.foldl_append];simp only [List.foldl_cons,List.foldl_nil];rw [if_neg (by simp)];have:∀(l:List Nat) (v:γ),(∀ x∈l,x∈List.range n)→l.foldl (fun v i=>if i∈List.range n then g v i else v) v=l.foldl g v:=by
   intro l;induction l with
   |nil=>intro v _;rfl
   |cons x l ih=>intro v h;rw [List.foldl_cons,List.foldl_cons,if_pos (h x (by simp)),ih _ fun y hy=>h y (by simp [hy])]
  exact(this _ _ fun x hx=>hx).symm
theorem zAr(H:Nums m cs N E b DN DE Df){s t:Nat}(h:s≤t):YY DN DE s≤YY DN DE t:=by
 induction t with
 |zero=>rw [Nat.le_zero.1 h];exact Nat.le_refl _
 |succ t ih=>
  rcases Nat.lt_or_ge s (t+1)with k|k
  ·refine Nat.le_trans (ih (by omega)) ?_;exact Nat.le_mul_of_pos_right _ (Nat.mul_pos (H.pn t) (H.pe t))
  ·rw [Nat.le_antisymm h k];exact Nat.le_refl _
theorem DD_le(H:Nums m cs N E b DN DE Df)(t:Nat):DN t*DE t≤YY DN DE (t+1):=Nat.le_mul_of_pos_left _ (zns H t)
def zrj(m:Mdl)(N:Nat→Nat→Nat→Nat)(E:Nat→Nat→Nat)(DN DE:Nat→Nat)(t:Nat)(bef:Nat→Option TL):Prop:=
 ∀ i,i≤m.tags.length→(i∈src m.tags.length t→∃ u,bef i=some u∧RL (YY DN DE t) u (fw m.tags.length (wN N E) t i))∧(i∉src m.tags.length t→bef i=none)
theorem zgm(bef:Nat→Option TL)(j c:Nat):∀ k,(row1 stL plL m ([48],[]) bef j c 2 k).2=2
 |0=>rfl
 |k+1=>by
  rw [row1];cases bef k with
  |none=>exact zgm bef j c k
  |some u=>dsimp only;rw [zgm bef j c k];exact zp6 _ _ _ _ _
theorem zvx {B:Prop}(H:Nums m cs N E b DN DE Df)(hB:B→YY DN DE cs.length*Df<10 ^ 400){t j:Nat}(ht:t<cs.length)(hj:j<m.tags.length){bef:Nat→Option TL}(hs:zrj m N E DN DE t bef):
 ∀ k,k≤m.tags.length+1→Oc B (row1 stL plL m ([48],[]) bef j (cs.getD t 0) 0 k).2 (RL (YY DN DE (t+1)) (row1 stL plL m ([48],[]) bef j (cs.getD t 0) 0 k).1 ((List.range k).foldl (fun v i=>if i∈src m.tags.length t then better v (stp (fw m.tags.length (wN N E) t i) (wN N E t i j) [j])else v) (0,[])))
 |0,_=>.inl ⟨rfl,zox (zns H _),rfl⟩
 |k+1,hk=>by
  have ih:=zvx H hB ht hj hs k (by omega);rw [row1,List.range_succ,List.foldl_append];simp only [List.foldl_cons,List.foldl_nil];obtain⟨h1,h2⟩:=hs k (by omega);by_cases hk':k∈src m.tags.length t
  ·obtain⟨u,hu,hr⟩:=h1 hk';rw [hu,if_pos hk'];dsimp only;rcases ih with⟨e,hi⟩|⟨e,hn⟩
   ·rw [e];have hYT:B→YY DN DE (t+1)<10 ^ 400:=fun hb=>by have k1:=zAr H (s:=t+1) (t:=cs.length) (by omega);have k2:=Nat.le_mul_of_pos_right (YY DN DE cs.length) H.pf;exact Nat.lt_of_le_of_lt (Nat.le_trans k1 k2) (hB hb)
    obtain⟨n1,n2⟩:=H.n t k j ht hk' hj;obtain⟨e1,e2⟩:=H.e t j ht hj;refine oneL_oc [j] hi hr n1 e1 (fun hb=>⟨?_,?_⟩) (fun hb=>⟨?_,hYT hb⟩)
    ·exact Nat.lt_of_le_of_lt (Nat.le_trans (Nat.mul_le_mul n2 e2) (DD_le H t)) (hYT hb)
    ·exact Nat.lt_of_le_of_lt (DD_le H t) (hYT hb)
    ·exact Nat.lt_of_le_of_lt (Nat.mul_le_mul (fw_le H t k (by omega) hk') (Nat.mul_le_mul n2 e2)) (hYT hb)
   ·exact .inr ⟨by rw [e];exact zp6 _ _ _ _ _,hn⟩
  ·rw [h2 hk',if_neg hk'];exact ih
theorem zeV {β:Type}(st:Int→β→List Nat→Str→β×Int)(pl:Int→β→β→β×Int)(m:Mdl)(none:β)(bef:Nat→Option β)(c:Nat)(f:Int):∀ k,(rowK st pl m none bef c f k).1.length=k
 |0=>rfl
 |k+1=>by rw [rowK,List.length_append,zeV st pl m none bef c f k];rfl
theorem zpX(bef:Nat→Option TL)(c:Nat):∀ k,(rowK stL plL m ([48],[]) bef c 2 k).2=2
 |0=>rfl
 |k+1=>by rw [rowK];dsimp only;rw [zpX bef c k];exact zgm _ _ _ _
theorem zvw {B:Prop}(H:Nums m cs N E b DN DE Df)(hB:B→YY DN DE cs.length*Df<10 ^ 400){t:Nat}(ht:t<cs.length){bef:Nat→Option TL}(hs:zrj m N E DN DE t bef):
 ∀ k,k≤m.tags.length→Oc B (rowK stL plL m ([48],[]) bef (cs.getD t 0) 0 k).2 (∀ j,j<k→∃ u,(rowK stL plL m ([48],[]) bef (cs.getD t 0) 0 k).1[j]? =some u∧RL (YY DN DE (t+1)) u (fw m.tags.length (wN N E) (t+1) j))
 |0,_=>.inl ⟨rfl,fun j hj=>by omega⟩
 |k+1,hk=>by
  have hl:=zeV stL plL m ([48],[]) bef (cs.getD t 0) 0 k;rw [rowK];dsimp only;rcases zvw H hB ht hs k (by omega)with⟨e,hi⟩|⟨e,hn⟩
  ·rw [e];have ho:=zvx H hB ht (show k<m.tags.length by omega) hs (m.tags.length+1) (Nat.le_refl _);rw [←zpT m.tags.length t (fun v i=>better v (stp (fw m.tags.length (wN N E) t i) (wN N E t i k) [k]))]at ho;rcases ho with⟨e2,h2⟩|⟨e2,hn⟩
   ·refine .inl ⟨e2,fun j hj=>?_⟩;rcases Nat.lt_or_ge j k with h|h
    ·obtain⟨u,hu,hr⟩:=hi j h;exact⟨u,by rw [List.getElem?_append_left (by omega)];exact hu,hr⟩
    ·have:j=k:=by omega
     subst this;refine⟨_,by rw [List.getElem?_append_right (by omega),hl,Nat.sub_self];rfl,?_⟩;rw [fw];exact h2
   ·exact .inr ⟨e2,hn⟩
  ·exact .inr ⟨by rw [e];exact zgm _ _ _ _,hn⟩
theorem zxA {B:Prop}(H:Nums m cs N E b DN DE Df)(hB:B→YY DN DE cs.length*Df<10 ^ 400):∀ t,t≤cs.length→Oc B (fwdT stL plL m ([48],[]) ([49],[]) cs t).2 (zrj m N E DN DE t (befT m ([49],[]) t (fwdT stL plL m ([48],[]) ([49],[]) cs t).1))
 |0,_=>.inl ⟨rfl,fun i hi=>by
  unfold befT;simp only [if_true,src,List.mem_singleton];constructor
  ·intro h;rw [if_pos h];exact⟨_,rfl,is_one,rfl⟩
  ·intro h;rw [if_neg h]⟩
 |t+1,ht=>by
  rw [fwdT];rcases zxA H hB t (by omega)with⟨e,hi⟩|⟨e,hn⟩
  ·rw [e];have hl:=zeV stL plL m ([48],[]) (befT m ([49],[]) t (fwdT stL plL m ([48],[]) ([49],[]) cs t).1) (cs.getD t 0) 0 m.tags.length;rcases zvw H hB (show t<cs.length by omega) hi m.tags.length (Nat.le_refl _)with⟨e2,h2⟩|⟨e2,hn⟩
   ·refine .inl ⟨e2,fun i hi=>?_⟩;have es:src m.tags.length (t+1)=List.range m.tags.length:=by simp [src]
    rw [show ∀ l:List TL,befT m ([49],[]) (t+1) l i=l[i]? from fun l=>if_neg (by omega),es,List.mem_range];refine⟨fun h=>h2 i h,fun h=>?_⟩;rw [List.getElem?_eq_none (by rw [hl];omega)]
   ·exact .inr ⟨e2,hn⟩
  ·exact .inr ⟨by rw [e];exact zpX _ _ _,hn⟩
theorem zkP(bef:Nat→Option TL):∀ k,(fin1 stL plL m ([48],[]) bef 2 k).2=2
 |0=>rfl
 |k+1=>by
  rw [fin1];cases bef k with
  |none=>exact zkP bef k
  |some u=>dsimp only;rw [zkP bef k];show (stL 2 u [] _).2=2;exact zjK _ _ _
theorem zxF {B:Prop}(H:Nums m cs N E b DN DE Df)(hB:B→YY DN DE cs.length*Df<10 ^ 400){bef:Nat→Option TL}(hs:zrj m N E DN DE cs.length bef):
 ∀ k,k≤m.tags.length+1→Oc B (fin1 stL plL m ([48],[]) bef 0 k).2 (RL (YY DN DE cs.length*Df) (fin1 stL plL m ([48],[]) bef 0 k).1 ((List.range k).foldl (fun v i=>if i∈src m.tags.length cs.length then better v (stp (fw m.tags.length (wN N E) cs.length i) (b i) [])else v) (0,[])))
 |0,_=>.inl ⟨rfl,zox (Nat.mul_pos (zns H _) H.pf),rfl⟩
 |k+1,hk=>by
  have ih:=zxF H hB hs k (by omega);rw [fin1,List.range_succ,List.foldl_append];simp only [List.foldl_cons,List.foldl_nil];obtain⟨h1,h2⟩:=hs k (by omega);by_cases hk':k∈src m.tags.length cs.length
  ·obtain⟨u,hu,hr⟩:=h1 hk';rw [hu,if_pos hk'];dsimp only;rcases ih with⟨e,hi⟩|⟨e,hn⟩
   ·rw [e];obtain⟨n1,n2⟩:=H.f k hk';unfold one' plL;have hb1:B→(fw m.tags.length (wN N E) cs.length k).1*b k<10 ^ 400:=fun hb=>Nat.lt_of_le_of_lt (Nat.mul_le_mul (fw_le H _ k (Nat.le_refl _) hk') n2) (hB hb);rcases stL_oc (B:=B) [] hr n1 (fun hb=>⟨hb1 hb,hB hb⟩)with⟨e2,hi2⟩|⟨e2,hn2⟩
    ·exact .inl ⟨e2,zq8 hi hi2⟩
    ·exact .inr ⟨e2,hn2⟩
   ·refine .inr ⟨?_,hn⟩;rw [e];exact zjK _ _ _
  ·rw [h2 hk',if_neg hk'];exact ih
theorem finL_oc {B:Prop}(H:Nums m cs N E b DN DE Df)(hB:B→YY DN DE cs.length*Df<10 ^ 400):Oc B (finT stL plL m ([48],[]) ([49],[]) cs).2 (RL (YY DN DE cs.length*Df) (finT stL plL m ([48],[]) ([49],[]) cs).1 (fin m.tags.length (wN N E) b cs.length)):=by
 unfold finT;rcases zxA H hB cs.length (Nat.le_refl _)with⟨e,hi⟩|⟨e,hn⟩
 ·rw [e];have:=zxF H hB hi (m.tags.length+1) (Nat.le_refl _);rw [←zpT m.tags.length cs.length (fun v i=>better v (stp (fw m.tags.length (wN N E) cs.length i) (b i) []))]at this;exact this
 ·exact .inr ⟨by rw [e];exact zkP _ _,hn⟩
end
end Go.Proofs
