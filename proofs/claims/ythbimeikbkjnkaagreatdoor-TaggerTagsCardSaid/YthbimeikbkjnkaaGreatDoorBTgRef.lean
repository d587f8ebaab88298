/- What the reference reckons: the probability of a list, the likeliest list; the numbers behind a valid model. -/
import Derived.Test.YthbimeikbkjnkaaGreatDoorBTgLaw
import Derived.Test.YthbimeikbkjnkaaGreatDoorBVM4
import Derived.KernelRfl
set_option linter.all false
namespace Go.Proofs
open Go.Ab Go.Cnt Go.Pl Go.Tg
def zlQ(m:Mdl)(cs js:List Nat)(k:Nat):Str×Int:=pmul (nx m (lastOf m.tags.length js k) (js.getD k 0)) (em m (js.getD k 0) (cs.getD k 0))
def prR(m:Mdl)(cs js:List Nat):Nat→Str×Int
 |0=>([49],0)
 |k+1=>if (prR m cs js k).2≠0 then([],(prR m cs js k).2)else if (zlQ m cs js k).2≠0 then([],(zlQ m cs js k).2)else pmul (prR m cs js k).1 (zlQ m cs js k).1
def prob(m:Mdl)(cs js:List Nat):Str×Int:=if (prR m cs js cs.length).2≠0 then([],(prR m cs js cs.length).2)else pmul (prR m cs js cs.length).1 (nx m (lastOf m.tags.length js cs.length) m.tags.length)
theorem zn6 {B:Prop}{a b:Str}{x y u v:Nat}(ha:Is a x y)(hb:Is b u v)(h:B→x*u<10 ^ 400∧y*v<10 ^ 400):Oc B (pmul a b).2 (Is (pmul a b).1 (x*u) (y*v)):=by
 rcases zv3 ha hb with⟨e,hi⟩|⟨e,hn⟩
 ·exact .inl ⟨e,hi⟩
 ·exact .inr ⟨e,fun hB=>hn (h hB)⟩
section
variable {m:Mdl}{cs:List Nat}{N:Nat→Nat→Nat→Nat}{E:Nat→Nat→Nat}{b:Nat→Nat}{DN DE:Nat→Nat}{Df:Nat}
theorem zfJ {L:List Nat}{T k:Nat}(hL:L∈LL m.tags.length T)(hk:k≤T):lastOf m.tags.length L k∈src m.tags.length k:=by
 unfold lastOf src;by_cases h:k=0
 ·rw [if_pos h,if_pos h];simp
 ·rw [if_neg h,if_neg h,List.mem_range];have hl:=zc8 _ _ _ hL;refine znu _ _ _ hL _ ?_;rw [List.getD_eq_getElem?_getD,List.getElem?_eq_getElem (by omega)];exact List.getElem_mem _
theorem getD_lt {L:List Nat}{T k:Nat}(hL:L∈LL m.tags.length T)(hk:k<T):L.getD k 0<m.tags.length:=by have hl:=zc8 _ _ _ hL;refine znu _ _ _ hL _ ?_;rw [List.getD_eq_getElem?_getD,List.getElem?_eq_getElem (by omega)];exact List.getElem_mem _
theorem pw_le(H:Nums m cs N E b DN DE Df){L:List Nat}(hL:L∈LL m.tags.length cs.length):∀ k,k≤cs.length→pw m.tags.length (wN N E) L k≤YY DN DE k
 |0,_=>Nat.le_refl _
 |k+1,hk=>by have h1:=zfJ hL (show k≤cs.length by omega);have h2:=getD_lt hL (show k<cs.length by omega);rw [pw];exact Nat.mul_le_mul (pw_le H hL k (by omega)) (Nat.mul_le_mul (H.n k _ _ (by omega) h1 h2).2 (H.e k _ (by omega) h2).2)
theorem prR_oc {B:Prop}(H:Nums m cs N E b DN DE Df)(hB:B→YY DN DE cs.length*Df<10 ^ 400){L:List Nat}(hL:L∈LL m.tags.length cs.length):
 ∀ k,k≤cs.length→Oc B (prR m cs L k).2 (Is (prR m cs L k).1 (pw m.tags.length (wN N E) L k) (YY DN DE k))
 |0,_=>.inl ⟨rfl,is_one⟩
 |k+1,hk=>by
  have h1:=zfJ hL (show k≤cs.length by omega);have h2:=getD_lt hL (show k<cs.length by omega);obtain⟨n1,n2⟩:=H.n k _ _ (by omega) h1 h2;obtain⟨e1,e2⟩:=H.e k _ (by omega) h2;have hYT:B→YY DN DE (k+1)<10 ^ 400:=fun hb=>by have k1:=zAr H (s:=k+1) (t:=cs.length) (by omega);have k2:=Nat.le_mul_of_pos_right (YY DN DE cs.length) H.pf;exact Nat.lt_of_le_of_lt (Nat.le_trans k1 k2) (hB hb)
  rw [prR];rcases prR_oc H hB hL k (by omega)with⟨e,hi⟩|⟨e,hn⟩
  ·rw [if_neg (by simp [e])];have hq:Oc B (zlQ m cs L k).2 _:=zn6 n1 e1 (fun hb=>⟨Nat.lt_of_le_of_lt (Nat.le_trans (Nat.mul_le_mul n2 e2) (DD_le H k)) (hYT hb),Nat.lt_of_le_of_lt (DD_le H k) (hYT hb)⟩);rcases hq with⟨e3,hi3⟩|⟨e3,hn⟩
   ·rw [if_neg (by simp [e3])];refine zn6 hi hi3 fun hb=>⟨?_,hYT hb⟩;exact Nat.lt_of_le_of_lt (Nat.mul_le_mul (pw_le H hL k (by omega)) (Nat.mul_le_mul n2 e2)) (hYT hb)
   ·rw [if_pos (by simp [e3])];exact .inr ⟨e3,hn⟩
  ·rw [if_pos (by simp [e])];exact .inr ⟨e,hn⟩
theorem prob_oc {B:Prop}(H:Nums m cs N E b DN DE Df)(hB:B→YY DN DE cs.length*Df<10 ^ 400){L:List Nat}(hL:L∈LL m.tags.length cs.length):
 Oc B (prob m cs L).2 (Is (prob m cs L).1 (wt m.tags.length (wN N E) b L cs.length) (YY DN DE cs.length*Df)):=by
 have h1:=zfJ hL (Nat.le_refl cs.length)
 obtain⟨n1,n2⟩:=H.f _ h1
 unfold prob
 rcases prR_oc H hB hL cs.length (Nat.le_refl _)with⟨e,hi⟩|⟨e,hn⟩
 ·rw [if_neg (by simp [e])]
  refine zn6 hi n1 fun hb=>⟨?_,hB hb⟩
  exact Nat.lt_of_le_of_lt (Nat.mul_le_mul (pw_le H hL _ (Nat.le_refl _)) n2) (hB hb)
 ·rw [if_pos (by simp [e])]
  exact .inr ⟨e,hn⟩
def tagL(m:Mdl)(cs:List Nat)(ls:List (List Nat)):Nat→TL×Int
 |0=>(([48],[]),0)
 |k+1=>if (tagL m cs ls k).2≠0 then tagL m cs ls k else if (prob m cs (ls.getD k [])).2≠0 then(([],[]),(prob m cs (ls.getD k [])).2)else
  if 0<zaD (prob m cs (ls.getD k [])).1 (tagL m cs ls k).1.1 then(((prob m cs (ls.getD k [])).1,ls.getD k []),0)else tagL m cs ls k
theorem zuZ {B:Prop}(H:Nums m cs N E b DN DE Df)(hB:B→YY DN DE cs.length*Df<10 ^ 400):∀ k,k≤(LL m.tags.length cs.length).length→
 Oc B (tagL m cs (LL m.tags.length cs.length) k).2 (RL (YY DN DE cs.length*Df) (tagL m cs (LL m.tags.length cs.length) k).1 (all (fun L=>wt m.tags.length (wN N E) b L cs.length) ((LL m.tags.length cs.length).take k)))
 |0,_=>.inl ⟨rfl,zox (Nat.mul_pos (zns H _) H.pf),rfl⟩
 |k+1,hk=>by
  have ih:=zuZ H hB k (by omega);have hm:(LL m.tags.length cs.length).getD k []∈LL m.tags.length cs.length:=by rw [List.getD_eq_getElem?_getD,List.getElem?_eq_getElem (by omega)];exact List.getElem_mem _
  have ht:(LL m.tags.length cs.length).take (k+1)=(LL m.tags.length cs.length).take k++[(LL m.tags.length cs.length).getD k []]:=by rw [List.take_add_one,List.getD_eq_getElem?_getD,List.getElem?_eq_getElem (by omega)];rfl
  have hp:=prob_oc H hB hm;rw [tagL,ht];generalize (LL m.tags.length cs.length).getD k []=L at hm hp ⊢;rw [all,List.foldl_append];simp only [List.foldl_cons,List.foldl_nil];rcases ih with⟨e,hi⟩|⟨e,hn⟩
  ·rw [if_neg (by simp [e])];rw [all]at hi;generalize (List.take k (LL m.tags.length cs.length)).foldl (fun c L=>if c.1<wt m.tags.length (wN N E) b L cs.length then(wt m.tags.length (wN N E) b L cs.length,L)else c) ((0,[]):Cand)=c at hi ⊢;rcases hp with⟨e2,hi2⟩|⟨e2,hn⟩
   ·rw [if_neg (by simp [e2])];have hc:=zx7 hi2 hi.1;by_cases h:c.1<wt m.tags.length (wN N E) b L cs.length
    ·rw [if_neg (by omega),if_neg (by omega)]at hc;rw [if_pos (by omega),if_pos h];exact .inl ⟨rfl,hi2,rfl⟩
    ·have:¬0<zaD (prob m cs L).1 (tagL m cs (LL m.tags.length cs.length) k).1.1:=by
      rw [hc]
      split
      ·omega
      ·split
       ·omega
       ·omega
     rw [if_neg this,if_neg h]
     exact .inl ⟨e,hi⟩
   ·rw [if_pos (by simp [e2])];exact .inr ⟨e2,hn⟩
  ·rw [if_pos (by simp [e])];exact .inr ⟨e,hn⟩
def tagF(m:Mdl)(cs:List Nat):TL×Int:=tagL m cs (LL m.tags.length cs.length) (LL m.tags.length cs.length).length
theorem tagF_oc {B:Prop}(H:Nums m cs N E b DN DE Df)(hB:B→YY DN DE cs.length*Df<10 ^ 400):Oc B (tagF m cs).2 (RL (YY DN DE cs.length*Df) (tagF m cs).1 (fin m.tags.length (wN N E) b cs.length)):=by have h:=zuZ H hB _ (Nat.le_refl _);rw [List.take_length, ←fin_all]at h;exact h
theorem RL_uniq {Y:Nat}{x y:TL}{c:Cand}(hx:RL Y x c)(hy:RL Y y c):x=y:=Prod.ext (hx.1.uniq hy.1) (hx.2.trans hy.2.symm)
end
theorem zfh:∀ L:List Str,(∀ a∈L,p01 a=true)→∃ D,0<D∧(∀ a∈L,∃ x,Is a x D∧x≤D)∧((∀ a∈L,a.countP (· ≠47)≤4)→D≤(10 ^ 4) ^ L.length)
 |[],_=>⟨1,Nat.one_pos,fun a h=>by simp at h,fun _=>by simp⟩
 |a::L,h=>by
  obtain⟨D,h1,h2,h3⟩:=zfh L fun x hx=>h x (by simp [hx]);obtain⟨n,d,hi,hn,hr⟩:=p01_is (h a (by simp));have hd:=hi.1;refine⟨d*D,Nat.mul_pos hd h1,fun x hx=>?_,fun hs=>?_⟩
  ·rcases List.mem_cons.1 hx with rfl|hx
   ·exact⟨n*D,hi.eq (Nat.mul_pos hd h1) (by ac_rfl),Nat.mul_le_mul_right _ hn⟩
   ·obtain⟨y,hy,hyl⟩:=h2 x hx;refine⟨y*d,hy.eq (Nat.mul_pos hd h1) (by ac_rfl),?_⟩;rw [Nat.mul_comm d D];exact Nat.mul_le_mul_right _ hyl
  ·have l1:=zsf hr (hs a (by simp));have l2:=h3 fun x hx=>hs x (by simp [hx]);rw [List.length_cons,Nat.pow_succ,Nat.mul_comm];exact Nat.mul_le_mul l2 (by omega)
def zcY(l:List (List Str)):Bool:=l.all fun r=>r.all fun s=>decide (s.countP (· ≠47)≤4)
def zcV(m:Mdl)(ws:List Str):Bool:=decide (m.tags.length≤3)&&decide (ws.length≤4)&&(zcY m.next&&zcY m.emit)
theorem zoo {M:List (List Str)}{r w i j:Nat}(h:matB M r w=true)(hi:i<r)(hj:j<w):p01 ((nthR M i).getD j [])=true∧(zcY M=true→((nthR M i).getD j []).countP (· ≠47)≤4):=by unfold matB at h;simp only [Bool.and_eq_true,decide_eq_true_eq,List.all_eq_true]at h;have hm:nthR M i∈M:=rowR.nth_mem (by omega);have h2:=h.2 _ hm;unfold zce at h2;simp only [Bool.and_eq_true,decide_eq_true_eq,List.all_eq_true]at h2;have hx:(nthR M i).getD j []∈nthR M i:=zcf (by omega);refine⟨h2.2 _ hx,fun hs=>?_⟩;unfold zcY at hs;simp only [List.all_eq_true,decide_eq_true_eq]at hs;exact hs _ hm _ hx
theorem zln {m:Mdl}(h:vmB m=true):matB m.next (m.tags.length+1) (m.tags.length+1)=true∧matB m.emit m.tags.length (m.words.length+1)=true:=by unfold vmB at h;simp only [Bool.and_eq_true]at h;exact⟨h.2.2.2.2.2.1,h.2.2.2.2.2.2⟩
noncomputable def numD(a:Str)(D:Nat):Nat:=open Classical in if h:∃ x,Is a x D∧x≤D then Classical.choose h else 0
theorem zog {a:Str}{D:Nat}(h:∃ x,Is a x D∧x≤D):Is a (numD a D) D∧numD a D≤D:=by unfold numD;rw [dif_pos h];exact Classical.choose_spec h
theorem src_le {n t i:Nat}(h:i∈src n t):i≤n:=by
 unfold src at h;split at h
 ·rw [List.mem_singleton.1 h];exact Nat.le_refl _
 ·have:=List.mem_range.1 h;omega
theorem zvm {n t:Nat}(h:n≤3):(src n t).length≤3:=by
 unfold src;split
 ·simp
 ·simpa using h
theorem nums_ex {m:Mdl}(hv:vmB m=true)(cs:List Nat)(hc:∀ c∈cs,c≤m.words.length)(ws:List Str)(hl:cs.length=ws.length):
 ∃ N E b DN DE Df,Nums m cs N E b DN DE Df∧(zcV m ws=true→10 ^ 4*(YY DN DE cs.length*Df)<10 ^ 400):=by
 obtain⟨hN,hE⟩:=zln hv
 let LN:Nat→List Str:=fun t=>(src m.tags.length t).flatMap fun i=>(List.range m.tags.length).map fun j=>nx m i j
 let LE:Nat→List Str:=fun t=>(List.range m.tags.length).map fun j=>em m j (cs.getD t 0)
 let Lf:List Str:=(src m.tags.length cs.length).map fun i=>nx m i m.tags.length
 have hc':∀ t,cs.getD t 0≤m.words.length:=fun t=>by
  rw [List.getD_eq_getElem?_getD];rcases Nat.lt_or_ge t cs.length with h|h
  ·rw [List.getElem?_eq_getElem h];exact hc _ (List.getElem_mem _)
  ·rw [List.getElem?_eq_none h];exact Nat.zero_le _
 have pN:∀ t,∀ a∈LN t,p01 a=true∧(zcY m.next=true→a.countP (· ≠47)≤4):=fun t a ha=>by simp only [LN,List.mem_flatMap,List.mem_map,List.mem_range]at ha;obtain⟨i,hi,j,hj,rfl⟩:=ha;have:=src_le hi;exact zoo hN (by omega) (by omega)
 have pE:∀ t,∀ a∈LE t,p01 a=true∧(zcY m.emit=true→a.countP (· ≠47)≤4):=fun t a ha=>by simp only [LE,List.mem_map,List.mem_range]at ha;obtain⟨j,hj,rfl⟩:=ha;have:=hc' t;exact zoo hE (by omega) (by omega)
 have pF:∀ a∈Lf,p01 a=true∧(zcY m.next=true→a.countP (· ≠47)≤4):=fun a ha=>by simp only [Lf,List.mem_map]at ha;obtain⟨i,hi,rfl⟩:=ha;have:=src_le hi;exact zoo hN (by omega) (by omega)
 have dN:=fun t=>zfh (LN t) fun a ha=>(pN t a ha).1
 have dE:=fun t=>zfh (LE t) fun a ha=>(pE t a ha).1
 have dF:=zfh Lf fun a ha=>(pF a ha).1
 obtain⟨VN,vN⟩:∃ f:Nat→Nat,∀ t,0<f t∧(∀ a∈LN t,∃ x,Is a x (f t)∧x≤f t)∧((∀ a∈LN t,a.countP (· ≠47)≤4)→f t≤(10 ^ 4) ^ (LN t).length):=⟨fun t=>Classical.choose (dN t),fun t=>Classical.choose_spec (dN t)⟩
 obtain⟨VE,vE⟩:∃ f:Nat→Nat,∀ t,0<f t∧(∀ a∈LE t,∃ x,Is a x (f t)∧x≤f t)∧((∀ a∈LE t,a.countP (· ≠47)≤4)→f t≤(10 ^ 4) ^ (LE t).length):=⟨fun t=>Classical.choose (dE t),fun t=>Classical.choose_spec (dE t)⟩
 obtain⟨VF,vF⟩:=dF
 refine⟨fun t i j=>numD (nx m i j) (VN t),fun t j=>numD (em m j (cs.getD t 0)) (VE t),fun i=>numD (nx m i m.tags.length) VF,VN,VE,VF,
  ⟨fun t i j ht hi hj=>?_,fun t j ht hj=>?_,fun i hi=>?_,fun t=>(vN t).1,fun t=>(vE t).1,vF.1⟩,fun hs=>?_⟩
 ·refine zog ((vN t).2.1 _ ?_)
  simp only [LN,List.mem_flatMap,List.mem_map,List.mem_range]
  exact⟨i,hi,j,hj,rfl⟩
 ·refine zog ((vE t).2.1 _ ?_)
  simp only [LE,List.mem_map,List.mem_range]
  exact⟨j,hj,rfl⟩
 ·refine zog (vF.2.1 _ ?_)
  simp only [Lf,List.mem_map]
  exact⟨i,hi,rfl⟩
 ·unfold zcV at hs
  simp only [Bool.and_eq_true,decide_eq_true_eq]at hs
  obtain⟨⟨s1,s2⟩,s3,s4⟩:=hs
  have bN:∀ t,VN t≤10 ^ 36:=fun t=>by
   refine Nat.le_trans ((vN t).2.2 fun a ha=>(pN t a ha).2 s3) ?_;have hlen:(LN t).length≤9:=by simp only [LN,List.length_flatMap,List.length_map,List.length_range,List.map_const',List.sum_replicate_nat];exact Nat.mul_le_mul (zvm s1) s1
   rw [←Nat.pow_mul];exact Nat.pow_le_pow_right (by decide) (by omega)
  have bE:∀ t,VE t≤10 ^ 12:=fun t=>by
   refine Nat.le_trans ((vE t).2.2 fun a ha=>(pE t a ha).2 s4) ?_;have hlen:(LE t).length≤3:=by simpa [LE] using s1
   rw [←Nat.pow_mul];exact Nat.pow_le_pow_right (by decide) (by omega)
  have bF:VF≤10 ^ 12:=by
   refine Nat.le_trans (vF.2.2 fun a ha=>(pF a ha).2 s3) ?_;have hlen:Lf.length≤3:=by simpa [Lf] using zvm s1
   rw [←Nat.pow_mul];exact Nat.pow_le_pow_right (by decide) (by omega)
  have bY:∀ k,YY VN VE k≤(10 ^ 48) ^ k:=fun k=>by
   induction k with
   |zero=>exact Nat.le_refl _
   |succ k ih=>rw [YY,Nat.pow_succ];refine Nat.mul_le_mul ih ?_;have:=Nat.mul_le_mul (bN k) (bE k);rwa [←Nat.pow_add]at this
  have b1:YY VN VE cs.length≤10 ^ 192:=by refine Nat.le_trans (bY _) ?_;rw [←Nat.pow_mul];exact Nat.pow_le_pow_right (by decide) (by omega)
  have b2:=Nat.mul_le_mul (Nat.le_refl (10 ^ 4)) (Nat.mul_le_mul b1 bF)
  rw [←Nat.pow_add, ←Nat.pow_add]at b2
  refine Nat.lt_of_le_of_lt b2 ?_
  exact Nat.pow_lt_pow_right (a:=10) (m:=4+(192+12)) (n:=400) (by decide) (by decide)
end Go.Proofs

namespace Go.Proofs
open Go.Ab Go.Cnt Go.Pl Go.Tg
theorem zmP(m:Mdl)(ws:List Str)(i:Nat)(h:i<ws.length):(zq m ws).getD i 0=idxS m.words (ws.getD i []):=by unfold zq;rw [List.getD_eq_getElem?_getD,List.getD_eq_getElem?_getD,List.getElem?_map,List.getElem?_eq_getElem h];rfl
theorem zmg {n:Nat}{js:List Nat}{k:Nat}(h:∀ j,j<k→js.getD j 0<n):lastOf n js k≤n:=by
 unfold lastOf;split
 ·exact Nat.le_refl _
 ·exact Nat.le_of_lt (h _ (by omega))
theorem zou(n:Nat)(js:List Nat)(k:Nat):lastOf n js (k+1)=js.getD k 0:=by unfold lastOf;rw [if_neg (by omega)];rfl
theorem zpF {m:Mdl}(hv:vmB m=true):m.next.length=m.tags.length+1∧(∀ i,i≤m.tags.length→(nthR m.next i).length=m.tags.length+1)∧m.emit.length=m.tags.length∧(∀ i,i<m.tags.length→(nthR m.emit i).length=m.words.length+1)∧incS m.tags=true∧incS m.words=true:=by
 obtain⟨h1,h2⟩:=zln hv;unfold matB at h1 h2;simp only [Bool.and_eq_true,decide_eq_true_eq,List.all_eq_true]at h1 h2;unfold vmB at hv;simp only [Bool.and_eq_true]at hv;refine⟨h1.1,fun i hi=>?_,h2.1,fun i hi=>?_,hv.2.2.1,hv.2.2.2.1⟩
 ·have:=h1.2 _ (rowR.nth_mem (show i<m.next.length by omega));unfold zce at this;simp only [Bool.and_eq_true,decide_eq_true_eq]at this;exact this.1
 ·have:=h2.2 _ (rowR.nth_mem (show i<m.emit.length by omega));unfold zce at this;simp only [Bool.and_eq_true,decide_eq_true_eq]at this;exact this.1
theorem zcC(M:List (List Str))(i:Nat)(h:i<M.length):nthV (zI M) i=.fs (strs (nthR M i)) (nthR M i).length:=by have:=zjT M i h;rw [←zkf,this];rfl
end Go.Proofs

namespace Go.Proofs
open Go.Ab Go.Cnt Go.Pl Go.Tg
set_option maxHeartbeats 4000000 in
theorem zvr(l:List Str)(hl:l.length≤1000000)(hs:∀ s∈l,s.length≤1000000000000000):PCall Tryz.prog 24 [.fs (strs l) l.length] (.ret (.bool (zbq l))):=by
 refine PCall.walk (rs:=[.tmp 2]) [0,2,3,7,23] [] mixed (zh) (zf) call24 Tryz.func24 rfl Tryz.ntmps24 rfl (by kernel_rfl) (by simp) (by simp [push_cast]) ?_;simp only [go_sem];refine AXs.loop mixed (zh) (zf) (fun i:Nat=>[(0,.fs (strs l) l.length),(3,.int .i64 i)]) (fun _=>⟨[],0⟩) (fun i=>i≤l.length∧∀ j,j<i→nameB (l.getD j [])=true) (fun i=>l.length - i) 0 (by kernel_rfl) ⟨Nat.zero_le _,fun j hj=>by omega⟩ (Sub.of0 [] rfl rfl ?_ ?_) ?_
 ·simp only [go_sem]
 ·simp only [go_sem]
 rintro i ⟨h1,h2⟩;simp only [go_sem];refine AXc.introP (fun h3=>?_) (fun h3=>?_)
 ·have hi:i<l.length:=by omega
  have hsl:=hs _ (zcf hi);simp (disch:=first|assumption|(push_cast<;>omega)|omega) only [go_sem];try (repeat refine sdC ?_)
  have hb:(decide (((l.getD i []).length:Int)<1)||decide (40<((l.getD i []).length:Int)))= !nameB (l.getD i []):=by
   unfold nameB;cases l.getD i []with
   |nil=>rfl
   |cons a t=>
    have e1:decide (((a::t).length:Int)<1)=false:=decide_eq_false (by simp only [List.length_cons];omega);rw [e1];by_cases hx:(a::t).length≤40
    ·rw [decide_eq_false (by omega),decide_eq_true hx];rfl
    ·rw [decide_eq_true (by omega),decide_eq_false hx];rfl
  rw [hb];cases hn:nameB (l.getD i [])with
  |false=>
   simp (disch:=first|assumption|(push_cast<;>omega)|omega) only [go_sem];unfold zbq;rw [zf7 hi hn];rfl
  |true=>
   simp (disch:=first|assumption|(push_cast<;>omega)|omega) only [go_sem];refine zk (i+1) ⟨by omega,fun j hj=>?_⟩ (by omega) (Sub.of0 [] rfl rfl ?_ ?_)
   ·by_cases hji:j<i
    ·exact h2 j hji
    ·obtain rfl:j=i:=by omega
     exact hn
   ·simp only [go_sem];simp
   ·simp only [go_sem]
 ·obtain rfl:i=l.length:=by omega
  simp only [go_sem];refine AXa.go mixed (zh) (zf) (by kernel_rfl) ?_;simp only [go_sem];unfold zbq;rw [zf6 h2,Bool.true_and];exact decide_eq_decide.2 (by omega)
noncomputable def zyT:List V→Option PR:=zB (fun l:List Str=>[.fs (strs l) l.length]) (fun l=>l.length≤1000000∧∀ s∈l,s.length≤1000000000000000) fun l=>.ret (.bool (zbq l))
theorem zt3(l:List Str)(hl:l.length≤1000000)(hs:∀ s∈l,s.length≤1000000000000000):zyT [.fs (strs l) l.length]=some (.ret (.bool (zbq l))):=
 zo (pat:=fun l:List Str=>[.fs (strs l) l.length]) (fun x y h=>by simp at h;exact zas h.1) l ⟨hl,hs⟩
theorem zt2:∀ args r,zyT args=some r→PCall Tryz.prog 24 args r:=zn fun l h=>zvr l h.1 h.2
theorem zvs(a b:Str)(la:a.length≤1000000000)(lb:b.length≤1000000000):PCall Tryz.prog 51 [.str a,.str b] (.ret (.tup [.str (pmul a b).1,.int .i64 (pmul a b).2])):=by
 have r1:=cR3Mul_p a b la lb;refine PCall.walk (rs:=[.tmp 4,.tmp 5]) [0,1,4,5] [] mixed (zg zy3 zh) (zf) call51 Tryz.func51 rfl Tryz.ntmps51 rfl (by kernel_rfl) (by simp) (by simp [push_cast]) ?_;simp (disch:=first|assumption|(push_cast<;>omega)|omega) only [go_sem,r1]
noncomputable def zyL:List V→Option PR:=zB (fun p:Str×Str=>[.str p.1,.str p.2]) (fun p=>p.1.length≤1000000000∧p.2.length≤1000000000) fun p=>.ret (.tup [.str (pmul p.1 p.2).1,.int .i64 (pmul p.1 p.2).2])
@[go_sem] theorem cTTimes_eq(a b:Str)(la:a.length≤1000000000)(lb:b.length≤1000000000):zyL [.str a,.str b]=some (.ret (.tup [.str (pmul a b).1,.int .i64 (pmul a b).2])):=
 zo (pat:=fun p:Str×Str=>[.str p.1,.str p.2]) (fun x y h=>by simp at h;exact Prod.ext h.1 h.2) (a,b) ⟨la,lb⟩
theorem ztT:∀ args r,zyL args=some r→PCall Tryz.prog 51 args r:=zn fun p h=>zvs p.1 p.2 h.1 h.2
theorem zv1(m:Mdl)(cs js:List Nat)(k:Nat)(h:(prR m cs js k).2≠0):∀ d,(prR m cs js (k+d)).2=(prR m cs js k).2
 |0=>rfl
 |d+1=>by have ih:=zv1 m cs js k h d;rw [show k+(d+1)=(k+d)+1 from rfl,prR,if_pos (by rw [ih];exact h),ih]
theorem prob_err(m:Mdl)(cs js:List Nat)(k:Nat)(hk:k≤cs.length)(h:(prR m cs js k).2≠0):prob m cs js=([],(prR m cs js k).2):=by have:=zv1 m cs js k h (cs.length - k);rw [show k+(cs.length - k)=cs.length by omega]at this;unfold prob;rw [if_pos (by rw [this];exact h),this]
theorem ixI_f {l:List Str}{s:Str}(h:idxS l s<l.length):ixI l s=idxS l s:=if_pos h
theorem ixI_n {l:List Str}{s:Str}(h:¬idxS l s<l.length):ixI l s= -1:=if_neg h
theorem prR_len(m:Mdl)(cs js:List Nat):∀ k,(prR m cs js k).1.length≤1000
 |0=>by simp [prR]
 |k+1=>by
  rw [prR];split
  ·simp
  ·split
   ·simp
   ·exact zgs _ _
set_option maxHeartbeats 8000000 in
set_option maxRecDepth 100000 in
theorem prob_ok(m:Mdl)(ws:List Str)(js:List Nat)(hf:Fit m)(hv:vmB m=true)(hw:ws.length≤1000000)(hjl:js.length=ws.length)(hj:∀ i,i<js.length→js.getD i 0<m.tags.length)(hl:∀ i j,(nx m i j).length≤1000000000∧(em m i j).length≤1000000000):
 PCall Tryz.prog 27 [mdlV m,.fs (strs ws) ws.length,.fs (nats .i64 js) js.length] (.ret (.tup [.str (prob m (zq m ws) js).1,.int .i64 (prob m (zq m ws) js).2])):=by
 have hΓ:=zg cRIx_ok (zg ztT zh)
 obtain⟨R,hR⟩:∃ R,R=prob m (zq m ws) js:=⟨_,rfl⟩
 rw [←hR]
 obtain⟨v1,v2,v3,v4,v5,v6⟩:=zpF hv
 refine PCall.walk (rs:=[.tmp 6,.tmp 7]) [0,1,2,3,6,7,8,9,10,11,12,13,14,22,33,64,72] [25] mixed (hΓ) (zf) call27 Tryz.func27 rfl Tryz.ntmps27 rfl (by kernel_rfl) (by simp) (by simp [push_cast,zb1]) ?_
 have pe:=prob_err m (zq m ws) js
 have pr:=prR_len m (zq m ws) js
 have pz:prR m (zq m ws) js 0=([49],0):=rfl
 have ps:∀ k,(prR m (zq m ws) js k).2=0→prR m (zq m ws) js (k+1)=if (zlQ m (zq m ws) js k).2≠0 then([],(zlQ m (zq m ws) js k).2)else pmul (prR m (zq m ws) js k).1 (zlQ m (zq m ws) js k).1:=fun k hk=>by rw [prR,if_neg (by simp [hk])]
 have pf:(prR m (zq m ws) js (zq m ws).length).2=0→prob m (zq m ws) js=pmul (prR m (zq m ws) js (zq m ws).length).1 (nx m (lastOf m.tags.length js (zq m ws).length) m.tags.length):=fun hk=>by unfold prob;rw [if_neg (by simp [hk])]
 have hq:∀ k,zlQ m (zq m ws) js k=pmul ((nthR m.next (lastOf m.tags.length js k)).getD (js.getD k 0) []) ((nthR m.emit (js.getD k 0)).getD ((zq m ws).getD k 0) []):=fun k=>rfl
 have hn:∀ i j,nx m i j=(nthR m.next i).getD j []:=fun i j=>rfl
 have he:∀ i j,em m i j=(nthR m.emit i).getD j []:=fun i j=>rfl
 obtain⟨hcl,hca⟩:(zq m ws).length=ws.length∧∀ i,i<ws.length→(zq m ws).getD i 0=idxS m.words (ws.getD i []):=⟨by simp [zq],fun i hi=>zmP m ws i hi⟩
 generalize zq m ws=cs at*
 have htl:=hf.tl
 have hwl:=hf.wl
 have iw:=zhw m.words
 obtain⟨M,hM⟩:∃ M,M=m:=⟨_,rfl⟩
 rw [←hM]at pe pr pz ps pf hq hn he hR hl
 obtain⟨T,W,N,E⟩:=m
 unfold mdlV
 dsimp only at v1 v2 v3 v4 v5 v6 hca hj htl hwl iw
 have hMt:M.tags=T:=by rw [hM]
 have hMn:M.next=N:=by rw [hM]
 have hMe:M.emit=E:=by rw [hM]
 rw [hMt]at pf hq
 rw [hMn]at hn hq
 rw [hMe]at he hq
 clear hM
 generalize prR M cs js=S at pe pr pz ps pf
 simp (disch:=first|assumption|(push_cast<;>omega)|omega) only [go_sem]
 refine AXs.loop mixed (hΓ) (zf) (fun i:Nat=>[(1,.fs (strs ws) ws.length),(2,.fs (nats .i64 js) js.length),(3,.fp [.fs (strs T) T.length,.fs (strs W) W.length,.fs (zI N) N.length,.fs (zI E) E.length]),(8,.int .i64 T.length),(9,.str (S i).1),(10,.int .i64 (lastOf T.length js i)),(11,.int .i64 i)]) (fun _=>⟨[],0⟩) (fun i=>i≤ws.length∧(S i).2=0) (fun i=>ws.length - i) 0 (by kernel_rfl) ⟨Nat.zero_le _,by rw [pz]⟩ (Sub.of0 [] rfl rfl ?_ ?_) ?_
 ·simp only [go_sem,pz,lastOf]
 ·simp only [go_sem]
 rintro i ⟨h1,h2⟩
 simp (disch:=first|assumption|(push_cast<;>omega)|omega) only [go_sem]
 refine AXc.introP (fun h3=>?_) (fun h3=>?_)
 ·have hi:i<ws.length:=by omega
  have c1:=hca i hi
  have iw1:=iw (ws.getD i [])
  have lo:lastOf T.length js i≤T.length:=zmg fun j h=>hj j (by omega)
  have ls:=zou T.length js i
  have hk:=hj i (by omega)
  have n1:=zcC N (lastOf T.length js i) (by omega)
  have n2:=v2 (lastOf T.length js i) lo
  have n3:=zcC E (js.getD i 0) (by omega)
  have n4:=v4 (js.getD i 0) hk
  have hp:=ps i h2
  have hqi:=hq i
  have l1:=(hl (lastOf T.length js i) (js.getD i 0)).1
  have l2:=(hl (js.getD i 0) (cs.getD i 0)).2
  rw [hn]at l1
  rw [he]at l2
  have l3:=pr i
  have lq:=zgs ((nthR N (lastOf T.length js i)).getD (js.getD i 0) []) ((nthR E (js.getD i 0)).getD (cs.getD i 0) [])
  have pei:=pe (i+1) (by omega)
  simp (disch:=first|assumption|(push_cast<;>omega)|omega) only [go_sem]
  (repeat refine sdC ?_)
  by_cases hx:idxS W (ws.getD i [])<W.length
  ·rw [ixI_f hx, ←c1]
   have cb:cs.getD i 0≤W.length:=by omega
   skip
   generalize hA:(nthR N (lastOf T.length js i)).getD (js.getD i 0) []=A at l1 hqi lq
   generalize hB:(nthR E (js.getD i 0)).getD (cs.getD i 0) []=B at l2 hqi lq
   rw [hqi]at hp
   try refine AXc.introP (fun h0=>by omega) (fun h0=>?_)
   simp (disch:=first|assumption|(push_cast<;>omega)|omega) only [go_sem,n1,n3,hA,hB]
   (repeat refine sdC ?_)
   generalize pmul A B=q at hp lq ⊢
   obtain⟨q1,q2⟩:=q
   dsimp only at hp lq ⊢
   refine AXc.introP (fun h5=>?_) (fun h5=>?_)
   ·rw [if_neg (fun k=>k h5)]at hp
    simp (disch:=first|assumption|(push_cast<;>omega)|omega) only [go_sem]
    generalize pmul (S i).1 q1=z at hp ⊢
    refine AXc.introN (fun h6=>?_) (fun h6=>?_)
    ·rw [hR,pei (by rw [hp];exact h6),hp]
     simp (disch:=first|assumption|(push_cast<;>omega)|omega) only [go_sem]
    ·simp (disch:=first|assumption|(push_cast<;>omega)|omega) only [go_sem]
     try (repeat refine sdC ?_)
     refine zk (i+1) ⟨by omega,by rw [hp];exact h6⟩ (by omega) ?_
     rw [hp,ls]
     refine Sub.of0 [] rfl rfl ?_ ?_
     ·simp only [go_sem]
      simp
     ·simp only [go_sem]
   ·rw [if_pos h5]at hp
    simp (disch:=first|assumption|(push_cast<;>omega)|omega) only [go_sem]
    refine AXc.introN (fun h6=>?_) (fun h6=>absurd h6 h5)
    rw [hR,pei (by rw [hp];exact h6),hp]
    simp (disch:=first|assumption|(push_cast<;>omega)|omega) only [go_sem]
  ·rw [ixI_n hx]
   have cb:W.length≤W.length:=by omega
   rw [show cs.getD i 0=W.length by omega]at hqi l2 lq
   generalize hA:(nthR N (lastOf T.length js i)).getD (js.getD i 0) []=A at l1 hqi lq
   generalize hB:(nthR E (js.getD i 0)).getD (W.length) []=B at l2 hqi lq
   rw [hqi]at hp
   try refine AXc.introP (fun h0=>by omega) (fun h0=>?_)
   simp (disch:=first|assumption|(push_cast<;>omega)|omega) only [go_sem,n1,n3,hA,hB]
   (repeat refine sdC ?_)
   generalize pmul A B=q at hp lq ⊢
   obtain⟨q1,q2⟩:=q
   dsimp only at hp lq ⊢
   refine AXc.introP (fun h5=>?_) (fun h5=>?_)
   ·rw [if_neg (fun k=>k h5)]at hp
    simp (disch:=first|assumption|(push_cast<;>omega)|omega) only [go_sem]
    generalize pmul (S i).1 q1=z at hp ⊢
    refine AXc.introN (fun h6=>?_) (fun h6=>?_)
    ·rw [hR,pei (by rw [hp];exact h6),hp]
     simp (disch:=first|assumption|(push_cast<;>omega)|omega) only [go_sem]
    ·simp (disch:=first|assumption|(push_cast<;>omega)|omega) only [go_sem]
     try (repeat refine sdC ?_)
     refine zk (i+1) ⟨by omega,by rw [hp];exact h6⟩ (by omega) ?_
     rw [hp,ls]
     refine Sub.of0 [] rfl rfl ?_ ?_
     ·simp only [go_sem]
      simp
     ·simp only [go_sem]
   ·rw [if_pos h5]at hp
    simp (disch:=first|assumption|(push_cast<;>omega)|omega) only [go_sem]
    refine AXc.introN (fun h6=>?_) (fun h6=>absurd h6 h5)
    rw [hR,pei (by rw [hp];exact h6),hp]
    simp (disch:=first|assumption|(push_cast<;>omega)|omega) only [go_sem]
 ·obtain rfl:i=ws.length:=by omega
  have lo:lastOf T.length js ws.length≤T.length:=zmg fun j h=>hj j (by omega)
  have n1:=zcC N (lastOf T.length js ws.length) (by omega)
  have n2:=v2 (lastOf T.length js ws.length) lo
  rw [hcl]at pf
  have hp:=pf h2
  rw [hn]at hp
  have l1:=(hl (lastOf T.length js ws.length) T.length).1
  rw [hn]at l1
  have l3:=pr ws.length
  rw [hR,hp]
  simp (disch:=first|assumption|(push_cast<;>omega)|omega) only [go_sem]
  refine AXa.go mixed (hΓ) (zf) (by kernel_rfl) ?_
  simp (disch:=first|assumption|(push_cast<;>omega)|omega) only [go_sem,n1]
  try (repeat refine sdC ?_)
  try omega
def ProbOK(p:Mdl×List Str×List Nat):Prop:=Fit p.1∧vmB p.1=true∧p.2.1.length≤1000000∧p.2.2.length=p.2.1.length∧(∀ i,i<p.2.2.length→p.2.2.getD i 0<p.1.tags.length)∧∀ i j,(nx p.1 i j).length≤1000000000∧(em p.1 i j).length≤1000000000
noncomputable def cProb:List V→Option PR:=zB (fun p:Mdl×List Str×List Nat=>[mdlV p.1,.fs (strs p.2.1) p.2.1.length,.fs (nats .i64 p.2.2) p.2.2.length]) ProbOK fun p=>.ret (.tup [.str (prob p.1 (zq p.1 p.2.1) p.2.2).1,.int .i64 (prob p.1 (zq p.1 p.2.1) p.2.2).2])
theorem cProb_eq(m:Mdl)(ws:List Str)(js:List Nat)(h:ProbOK (m,ws,js)):cProb [mdlV m,.fs (strs ws) ws.length,.fs (nats .i64 js) js.length]=some (.ret (.tup [.str (prob m (zq m ws) js).1,.int .i64 (prob m (zq m ws) js).2])):=
 zo (pat:=fun p:Mdl×List Str×List Nat=>[mdlV p.1,.fs (strs p.2.1) p.2.1.length,.fs (nats .i64 p.2.2) p.2.2.length]) (fun x y h=>by simp only [List.cons.injEq,V.fs.injEq,and_true]at h;exact Prod.ext (zeg h.1) (Prod.ext (zas h.2.1.1) (zah h.2.2.1))) (m,ws,js) h
theorem cProb_ok:∀ args r,cProb args=some r→PCall Tryz.prog 27 args r:=zn fun p h=>prob_ok p.1 p.2.1 p.2.2 h.1 h.2.1 h.2.2.1 h.2.2.2.1 h.2.2.2.2.1 h.2.2.2.2.2
noncomputable def cTRVM:List V→Option PR:=zB (fun m:Mdl=>[mdlV m]) (fun m=>Fit m) fun m=>.ret (.bool (vmB m))
theorem cTRVM_eq(m:Mdl)(h:Fit m):cTRVM [mdlV m]=some (.ret (.bool (vmB m))):=zo (pat:=fun m:Mdl=>[mdlV m]) (fun x y h=>zeg (by simpa using h)) m h
theorem cTRVM_ok:∀ args r,cTRVM args=some r→PCall Tryz.prog 23 args r:=zn fun m h=>zh1 m h
end Go.Proofs

namespace Go.Proofs
open Go.Ab
theorem za4:Tryz.prog.follows .mixedOrders=true:=by kernel_rfl
end Go.Proofs

namespace Go.Ab
variable {P:Program}
abbrev FTab:=List (List V×V)
abbrev Tab:=List (FuncId×FTab)
def eqS:List UInt8→List UInt8→Bool
 |[],[]=>true
 |a::r,b::s=>Nat.beq a.toNat b.toNat&&eqS r s
 |_,_=>false
theorem eqS_eq:∀ {a b:List UInt8},eqS a b=true→a=b
 |[],b,h=>by cases b<;>simp [eqS]at h;rfl
 |x::r,b,h=>by
  cases b with
  |nil=>simp [eqS]at h
  |cons y s=>simp [eqS]at h;rw [eqS_eq h.2,UInt8.toNat_inj.1 h.1]
def eqA:V→V→Bool
 | .str a,.str b=>eqS a b
 | .int k a,.int k' b=>decide (k=k')&&decide (a=b)
 | .bool a,.bool b=>a==b
 |_,_=>false
def eqAs:List V→List V→Bool
 |[],[]=>true
 |a::r,b::s=>eqA a b&&eqAs r s
 |_,_=>false
theorem eqA_eq {a b:V}(h:eqA a b=true):a=b∧Pure a:=by
 unfold eqA at h;split at h
 ·exact⟨by rw [eqS_eq h],.str _⟩
 ·simp at h;exact⟨by rw [h.1,h.2],.int _ _⟩
 ·simp at h;exact⟨by rw [h],.bool _⟩
 ·cases h
theorem zxJ:∀ {a b:List V},eqAs a b=true→a=b
 |[],b,h=>by cases b<;>simp [eqAs]at h;rfl
 |x::r,b,h=>by
  cases b with
  |nil=>simp [eqAs]at h
  |cons y s=>simp [eqAs]at h;rw [(eqA_eq h.1).1,zxJ h.2]
def tabGo(L:FTab)(args:List V):Option PR:=
 match L with
 |[]=>none
 |q::r=>match eqAs q.1 args with
  |true=>some (.ret q.2)
  |false=>tabGo r args
def tabF(T:Tab)(f:FuncId)(args:List V):Option PR:=
 match T with
 |[]=>none
 |e::r=>match Nat.beq e.1 f with
  |true=>tabGo e.2 args
  |false=>tabF r f args
def FTabOK(P:Program)(f:FuncId)(L:FTab):Prop:=∀ q∈L,PCall P f q.1 (.ret q.2)
theorem FTabOK.nil {f:FuncId}:FTabOK P f []:=fun _ h=>by cases h
theorem FTabOK.append {f:FuncId}{L M:FTab}(h:FTabOK P f L)(k:FTabOK P f M):FTabOK P f (L++M):=fun q hq=>(List.mem_append.1 hq).elim (h q) (k q)
def TabOK(P:Program)(T:Tab):Prop:=∀ e∈T,FTabOK P e.1 e.2
theorem TabOK.nil:TabOK P []:=fun _ h=>by cases h
theorem TabOK.cons {f:FuncId}{L:FTab}{T:Tab}(h:FTabOK P f L)(k:TabOK P T):TabOK P ((f,L)::T):=fun e he=>by
 rcases List.mem_cons.1 he with rfl|he
 ·exact h
 ·exact k e he
theorem zpP {f:FuncId}{args:List V}{r:PR}:∀ {L:FTab},FTabOK P f L→tabGo L args=some r→PCall P f args r
 |[],_,h=>by cases h
 |q::L,ok,h=>by
  unfold tabGo at h;split at h
  ·rename_i e;cases h;rw [←zxJ e];exact ok q (List.mem_cons_self ..)
  ·exact zpP (fun q hq=>ok q (List.mem_cons_of_mem _ hq)) h
theorem zu0 {f:FuncId}{args:List V}{r:PR}:∀ {T:Tab},TabOK P T→tabF T f args=some r→PCall P f args r
 |[],_,h=>by cases h
 |e::T,ok,h=>by
  unfold tabF at h;split at h
  ·rename_i q;have q':=Nat.eq_of_beq_eq_true q;subst q';exact zpP (ok e (List.mem_cons_self ..)) h
  ·exact zu0 (fun e he=>ok e (List.mem_cons_of_mem _ he)) h
noncomputable def chkT(E:ECfg)(P:Program)(n:Nat)(f:FuncId)(L:FTab):Bool:=
 match L with
 |[]=>true
 |q::r=>
  match eAns E P n f q.1 with
  |some v=>beqV v q.2&&eqAs q.1 q.1&&chkT E P n f r
  |none=>false
theorem zmE:∀ {a:List V},eqAs a a=true→∀ x∈a,Pure x
 |y::r,h,x,hx=>by
  simp [eqAs]at h;rcases List.mem_cons.1 hx with rfl|hx
  ·exact(eqA_eq h.1).2
  ·exact zmE h.2 x hx
theorem zay {E:ECfg}(hm:P.follows .mixedOrders=true)(hΓ:∀ f args r,E.Γ f args=some r→PCall P f args r)(hcan:∀ f,E.can f=true→zi P f)(hsp:zgF P E)
 {n:Nat} {f:FuncId}:∀ {L:FTab},chkT E P n f L=true→FTabOK P f L
 |[],_=>FTabOK.nil
 |q::L,h=>by
  unfold chkT at h;split at h;rotate_left;·cases h
  rename_i v hv;simp only [Bool.and_eq_true]at h;intro q' hq;rcases List.mem_cons.1 hq with rfl|hq
  ·have:=zxP hm hΓ hcan hsp (zmE h.1.2) hv;rw [zhO h.1.1]at this;exact this
  ·exact zay hm hΓ hcan hsp h.2 q' hq
def zgN(E:ECfg)(T:Tab):ECfg:={ E with Γ:=fun f args=>match tabF T f args with|some r=>some r|none=>E.Γ f args }
theorem zd7 {E:ECfg}{T:Tab}(hΓ:∀ f args r,E.Γ f args=some r→PCall P f args r)(hT:TabOK P T):∀ f args r,(zgN E T).Γ f args=some r→PCall P f args r:=by
 intro f args r h;have h':(match tabF T f args with|some r=>some r|none=>E.Γ f args)=some r:=h;split at h'
 ·rename_i r' hr;cases h';exact zu0 hT hr
 ·exact hΓ f args r h'
end Go.Ab

namespace Go.Proofs
open Go.Ab
theorem can1:((List.range (260+1)).all fun f=>[0,1,236,247,251,258].contains f||canB Tryz.prog f)=true:=by kernel_rfl
def zxy(args:List V):Option PR:=
 match args with
 |[.str s,.int .u8 n]=>bif decide (0≤n)&&decide (n<256)then some (.ret (.int .i64 (ixB s (UInt8.ofNat n.toNat))))else none
 |_=>none
theorem zxx(args:List V)(r:PR)(h:zxy args=some r):PCall Tryz.prog 251 args r:=by
 unfold zxy at h;split at h
 ·rename_i s n;cases hc:(decide (0≤n)&&decide (n<256))with
  |false=>rw [hc]at h;cases h
  |true=>
   rw [hc]at h;cases h;simp only [Bool.and_eq_true,decide_eq_true_eq]at hc;have e:((UInt8.ofNat n.toNat).toNat:Int)=n:=by simp;omega
   have:=zqs s (UInt8.ofNat n.toNat);rw [e]at this;exact this
 ·cases h
def Γ1(f:FuncId)(args:List V):Option PR:=bif Nat.beq f 251 then zxy args else none
theorem zlj:∀ f args r,Γ1 f args=some r→PCall Tryz.prog f args r:=by
 intro f args r h;unfold Γ1 at h;cases hf:Nat.beq f 251 with
 |false=>rw [hf]at h;cases h
 |true=>rw [hf]at h;rw [Nat.eq_of_beq_eq_true hf];exact zxx _ _ h
def wr1(f:FuncId):Nat:=bif Nat.beq f 245||Nat.beq f 208||Nat.beq f 230||Nat.beq f 171 then 1 else bif Nat.beq f 210||Nat.beq f 212 then 2 else 0
def E1:ECfg:=⟨Γ1,canL [0,1,236,247,251,258] 260,wr1,fun _=>false,100000,spec1⟩
end Go.Proofs

namespace Go.Proofs
open Go.Ab
def TAL150:List (List V×V):=[([.str [48]],.bool true),
 ([.str [49]],.bool true),
 ([.str [52]],.bool true),
 ([.str [50]],.bool true),
 ([.str [51]],.bool true),
 ([.str [49,54]],.bool true),
 ([.str [56]],.bool true),
 ([.str [51,50]],.bool true),
 ([.str [49,50,56]],.bool true),
 ([.str [50,53,54]],.bool true)]
theorem zAy:FTabOK Tryz.prog 150 TAL150:=zay (E:=E1) (n:=60) za4 zlj (zaz can1) (zaa rfl) (by kernel_rfl)
def TAL154:List (List V×V):=[([.str [48],.str [45]],.tup [.str [48],.bool false]),
 ([.str [49],.str [45]],.tup [.str [49],.bool false]),
 ([.str [49,47,52],.str [45]],.tup [.str [49,47,52],.bool false]),
 ([.str [49,47,50],.str [45]],.tup [.str [49,47,50],.bool false]),
 ([.str [51,47,52],.str [45]],.tup [.str [51,47,52],.bool false]),
 ([.str [51,47,49,54],.str [45]],.tup [.str [51,47,49,54],.bool false]),
 ([.str [49,47,56],.str [45]],.tup [.str [49,47,56],.bool false]),
 ([.str [49,47,51,50],.str [45]],.tup [.str [49,47,51,50],.bool false]),
 ([.str [51,47,56],.str [45]],.tup [.str [51,47,56],.bool false]),
 ([.str [49,47,49,54],.str [45]],.tup [.str [49,47,49,54],.bool false]),
 ([.str [51,47,49,50,56],.str [45]],.tup [.str [51,47,49,50,56],.bool false]),
 ([.str [51,47,50,53,54],.str [45]],.tup [.str [51,47,50,53,54],.bool false])]
theorem zAx:FTabOK Tryz.prog 154 TAL154:=zay (E:=E1) (n:=60) za4 zlj (zaz can1) (zaa rfl) (by kernel_rfl)
def TAL155:List (List V×V):=[([.str [48],.str [47]],.tup [.str [48],.str [],.bool false]),
 ([.str [49],.str [47]],.tup [.str [49],.str [],.bool false]),
 ([.str [49,47,52],.str [47]],.tup [.str [49],.str [52],.bool true]),
 ([.str [49,47,50],.str [47]],.tup [.str [49],.str [50],.bool true]),
 ([.str [51,47,52],.str [47]],.tup [.str [51],.str [52],.bool true]),
 ([.str [51,47,49,54],.str [47]],.tup [.str [51],.str [49,54],.bool true]),
 ([.str [49,47,56],.str [47]],.tup [.str [49],.str [56],.bool true]),
 ([.str [49,47,51,50],.str [47]],.tup [.str [49],.str [51,50],.bool true]),
 ([.str [51,47,56],.str [47]],.tup [.str [51],.str [56],.bool true]),
 ([.str [49,47,49,54],.str [47]],.tup [.str [49],.str [49,54],.bool true]),
 ([.str [51,47,49,50,56],.str [47]],.tup [.str [51],.str [49,50,56],.bool true]),
 ([.str [51,47,50,53,54],.str [47]],.tup [.str [51],.str [50,53,54],.bool true])]
theorem zAw:FTabOK Tryz.prog 155 TAL155:=zay (E:=E1) (n:=60) za4 zlj (zaz can1) (zaa rfl) (by kernel_rfl)
def TAL128:List (List V×V):=[([.str [49]],.bool true),
 ([.str [48]],.bool true),
 ([.str [50]],.bool true),
 ([.str [51]],.bool true),
 ([.str [52]],.bool true),
 ([.str [49,54]],.bool true),
 ([.str [56]],.bool true)]
theorem zAD:FTabOK Tryz.prog 128 TAL128:=zay (E:=E1) (n:=60) za4 zlj (zaz can1) (zaa rfl) (by kernel_rfl)
def TTA0:Tab:=[(150,TAL150),(154,TAL154),(155,TAL155),(128,TAL128)]
theorem TTA0_ok:TabOK Tryz.prog TTA0:=TabOK.cons zAy (TabOK.cons zAx (TabOK.cons zAw (TabOK.cons zAD (TabOK.nil))))
noncomputable def ETA0:ECfg:=zgN E1 TTA0
theorem zcz:∀ f args r,ETA0.Γ f args=some r→PCall Tryz.prog f args r:=zd7 zlj TTA0_ok
end Go.Proofs
