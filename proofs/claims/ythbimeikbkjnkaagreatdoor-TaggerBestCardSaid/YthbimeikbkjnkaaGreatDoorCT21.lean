/- Short cells: neither Score nor Total grows too long. -/
import Derived.Test.YthbimeikbkjnkaaGreatDoorCT6
set_option linter.all false
set_option maxHeartbeats 16000000
set_option maxRecDepth 100000
namespace Go.Proofs
open Go.Ab Go.Cnt Go.Pl Go.Tg
theorem ratP_12 {a:Str}{s:Bool}{n d:Nat}(h:ratP a=some (s,n,d))(hc:a.length≤12):d<10 ^ 10:=by
 have ht:=ze4 h;by_cases hd:d=1
 ·subst hd;decide
 ·rw [if_neg hd]at ht;have hp:=zcX n;rw [ht]at hc;simp only [List.length_append,List.length_cons]at hc;exact zbG (k:=10) (by omega)
def den(a:Str):Nat:=match ratP a with|some (_,_,d)=>d|none=>1
def num(a:Str):Nat:=match ratP a with|some (_,n,_)=>n|none=>0
def Cell(a:Str):Prop:=p01 a=true∧a.length≤12
theorem zcf {a:Str}(h:Cell a):Is a (num a) (den a)∧num a≤den a∧den a≤10 ^ 10:=by
 obtain⟨x,y,hi,hl,hr⟩:=p01_is h.1;have e1:num a=x:=by unfold num;rw [hr]
 have e2:den a=y:=by unfold den;rw [hr]
 rw [e1,e2];exact⟨hi,hl,Nat.le_of_lt (ratP_12 hr h.2)⟩
theorem zh2 {a:Str}(h:Cell a):0<den a:=(zcf h).1.1
theorem pow_ltE {k n e:Nat}(h:n≤10 ^ k)(hk:k<e):n<10 ^ e:=Nat.lt_of_le_of_lt h (Nat.pow_lt_pow_right (by decide) hk)
theorem zcw {k n:Nat}(h:n≤10 ^ k)(hk:k<400):n<10 ^ 400:=@pow_ltE k n 400 h hk
theorem zdo {c D i j:Nat}(h:c≤10 ^ i)(k:D≤10 ^ j):c*D≤10 ^ (i+j):=by rw [Nat.pow_add];exact Nat.mul_le_mul h k
theorem zow {a b:Str}{x y u v i j:Nat}(ha:Is a x y)(hx:x≤y)(hy:y≤10 ^ i)(hb:Is b u v)(hu:u≤v)(hv:v≤10 ^ j)(h:i+j<400):(pmul a b).2=0∧Is (pmul a b).1 (x*u) (y*v)∧x*u≤y*v∧y*v≤10 ^ (i+j):=by
 have h1:=Nat.mul_le_mul hx hu;have h2:=Nat.mul_le_mul hy hv;rw [←Nat.pow_add]at h2;rcases zoy ha hb with⟨e,hi⟩|⟨_,hn⟩
 ·exact⟨e,hi,h1,h2⟩
 ·exact absurd ⟨zcw (Nat.le_trans h1 h2) h,zcw h2 h⟩ hn
section
variable {m:Mdl}{cs:List Nat}
structure Sh(m:Mdl)(cs:List Nat):Prop where
 n:m.tags.length≤3
 t:cs.length≤4
 N:∀ i j,i≤m.tags.length→j≤m.tags.length→Cell (nx m i j)
 E:∀ j k,j<m.tags.length→k<cs.length→Cell (em m j (cs.getD k 0))
theorem qcell_sh(H:Sh m cs){js:List Nat}(hj:∀ i,i<cs.length→js.getD i 0<m.tags.length){k:Nat}(hk:k<cs.length):(zot m cs js k).2=0∧∃ x y,Is (zot m cs js k).1 x y∧x≤y∧y≤10 ^ 20:=by
 have hlast:lastOf m.tags.length js k≤m.tags.length:=by
  unfold lastOf;split
  ·exact Nat.le_refl _
  ·exact Nat.le_of_lt (hj _ (by omega))
 obtain⟨a1,a2,a3⟩:=zcf (H.N _ _ hlast (Nat.le_of_lt (hj k hk)));obtain⟨b1,b2,b3⟩:=zcf (H.E _ _ (hj k hk) hk);obtain⟨h1,h2,h3,h4⟩:=zow a1 a2 a3 b1 b2 b3 (by decide);exact⟨h1,_,_,h2,h3,h4⟩
theorem prR_sh(H:Sh m cs){js:List Nat}(hj:∀ i,i<cs.length→js.getD i 0<m.tags.length):∀ k,k≤cs.length→(prR m cs js k).2=0∧∃ x y,Is (prR m cs js k).1 x y∧x≤y∧y≤10 ^ (20*k)
 |0,_=>⟨rfl,1,1,zmA,Nat.le_refl _,by decide⟩
 |k+1,hk=>by obtain⟨e1,x,y,h1,h2,h3⟩:=prR_sh H hj k (by omega);obtain⟨e2,u,v,h4,h5,h6⟩:=qcell_sh H hj (show k<cs.length by omega);have ht:=H.t;obtain⟨e3,h7,h8,h9⟩:=zow h1 h2 h3 h4 h5 h6 (by omega);rw [prR,if_neg (by simp [e1]),if_neg (by simp [e2])];exact⟨e3,_,_,h7,h8,by rw [show 20*(k+1)=20*k+20 by omega];exact h9⟩
theorem prob_sh(H:Sh m cs){js:List Nat}(hj:∀ i,i<cs.length→js.getD i 0<m.tags.length):(prob m cs js).2=0:=by
 obtain⟨e1,x,y,h1,h2,h3⟩:=prR_sh H hj cs.length (Nat.le_refl _);have hlast:lastOf m.tags.length js cs.length≤m.tags.length:=by
  unfold lastOf;split
  ·exact Nat.le_refl _
  ·exact Nat.le_of_lt (hj _ (by omega))
 obtain⟨a1,a2,a3⟩:=zcf (H.N _ _ hlast (Nat.le_refl _));have ht:=H.t;unfold prob;rw [if_neg (by simp [e1])];exact(zow h1 h2 h3 a1 a2 a3 (by omega)).1
structure Den(m:Mdl)(cs:List Nat)(P:Nat→Nat→Nat)(PF:Nat):Prop where
 z:P 0 m.tags.length=1
 s:∀ t i j,t<cs.length→i∈src m.tags.length t→j<m.tags.length→P t i*(den (nx m i j)*den (em m j (cs.getD t 0))) ∣ P (t+1) j
 f:∀ i,i∈src m.tags.length cs.length→P cs.length i*den (nx m i m.tags.length) ∣ PF
 p:∀ t j,0<P t j
 pf:0<PF
 b:∀ t j,t≤cs.length→j<m.tags.length→P t j≤10 ^ 390
 bf:PF≤10 ^ 390
variable {P:Nat→Nat→Nat}{PF:Nat}
def StP(m:Mdl)(P:Nat→Nat→Nat)(t:Nat)(bef:Nat→Option Str):Prop:=
 ∀ i,i≤m.tags.length→(i∈src m.tags.length t→∃ u,bef i=some u∧∃ x,Is u x (P t i)∧x≤3 ^ t*P t i)∧(i∉src m.tags.length t→bef i=none)
theorem cnt_le {n t k:Nat}(h3:n≤3)(hk:k≤n+1):pS n t (fun _=>1) k≤3:=by refine Nat.le_trans (zoA n t (fun _=>1) hk) ?_;rw [zmc,zbS,Nat.zero_add];refine Nat.le_trans (zlH (fun _=>1) 1 _ fun i _=>Nat.le_refl _) ?_;rw [Nat.mul_one];exact zg9 h3
theorem le_big {c x D:Nat}(hc:c≤10 ^ 4)(hx:x≤c*D)(hD:D≤10 ^ 390):x<10 ^ 400:=zcw (k:=4+390) (Nat.le_trans hx (zdo hc hD)) (by decide)
theorem tm_sh {u q:Str}{x D w e G c:Nat}(hu:Is u x D)(hx:x≤c*D)(hq:Is q w e)(hw:w≤e)(hd:D*e ∣ G)(hG:0<G)(hb:G≤10 ^ 390)(hc:c≤10 ^ 4):(tm 0 u q).2=0∧∃ x',Is (tm 0 u q).1 x' G∧x'≤c*G:=by
 have hle:=Nat.le_of_dvd hG hd;have h1:x*w≤c*(D*e):=by rw [←Nat.mul_assoc];exact Nat.mul_le_mul hx hw
 obtain⟨r,hr⟩:=hd;have hlt:x*w<10 ^ 400:=le_big hc (Nat.le_trans h1 (Nat.mul_le_mul_left c hle)) hb;have hlt2:D*e<10 ^ 400:=zcw (Nat.le_trans hle hb) (by decide);rcases znY (B:=True) hu hq (fun _=>⟨hlt,hlt2⟩)with⟨e1,hi⟩|⟨_,hn⟩
 ·refine⟨e1,x*w*r,hi.eq hG (by rw [hr];ac_rfl),?_⟩;rw [hr, ←Nat.mul_assoc c];exact Nat.mul_le_mul_right r h1
 ·exact absurd trivial hn
theorem ps_sh {a b:Str}{x u G c d:Nat}(ha:Is a x G)(hx:x≤c*G)(hb:Is b u G)(hu:u≤d*G)(hG:G≤10 ^ 390)(h:c+d≤10 ^ 4):(ps 0 a b).2=0∧Is (ps 0 a b).1 (x+u) G∧x+u≤(c+d)*G:=by
 have hl:x+u≤(c+d)*G:=by rw [Nat.add_mul];omega
 rcases ps_oc (B:=True) ha hb (fun _=>⟨le_big h hl hG,zcw hG (by decide)⟩)with⟨e,hi⟩|⟨_,hn⟩
 ·exact⟨e,hi,hl⟩
 ·exact absurd trivial hn
theorem zvW(H:Sh m cs)(D:Den m cs P PF){t j:Nat}(ht:t<cs.length)(hj:j<m.tags.length){bef:Nat→Option Str}(hs:StP m P t bef):
 ∀ k,k≤m.tags.length+1→(row1 stS plS m [48] bef j (cs.getD t 0) 0 k).2=0∧∃ x,Is (row1 stS plS m [48] bef j (cs.getD t 0) 0 k).1 x (P (t+1) j)∧x≤pS m.tags.length t (fun _=>1) k*3 ^ t*P (t+1) j
 |0,_=>⟨rfl,0,zfU (D.p _ _),Nat.zero_le _⟩
 |k+1,hk=>by
  obtain⟨e,x,hi,hx⟩:=zvW H D ht hj hs k (by omega);have hcnt:=cnt_le (t:=t) H.n hk;have hT:=H.t;rw [row1];rw [zht]at hcnt ⊢;obtain⟨h1,h2⟩:=hs k (by omega);by_cases hk':k∈src m.tags.length t
  ·obtain⟨u,hu,y,hr,hy⟩:=h1 hk';rw [if_pos hk']at hcnt ⊢;rw [hu];dsimp only;rw [e,zhw];have hkn:k≤m.tags.length:=zql hk';obtain⟨a1,a2,a3⟩:=zcf (H.N k j hkn (Nat.le_of_lt hj));obtain⟨b1,b2,b3⟩:=zcf (H.E j t hj ht);have q0:(tm 0 (nx m k j) (em m j (cs.getD t 0))).2=0∧Is (tm 0 (nx m k j) (em m j (cs.getD t 0))).1 (num (nx m k j)*num (em m j (cs.getD t 0))) (den (nx m k j)*den (em m j (cs.getD t 0))):=by
    have h2:=Nat.mul_le_mul a3 b3;rw [←Nat.pow_add]at h2;have h1:=Nat.mul_le_mul a2 b2;rcases znY (B:=True) a1 b1 (fun _=>⟨zcw (Nat.le_trans h1 h2) (by decide),zcw h2 (by decide)⟩)with⟨e1,hi1⟩|⟨_,hn⟩
    ·exact⟨e1,hi1⟩
    ·exact absurd trivial hn
   rw [q0.1];have h3t:3 ^ t≤27:=Nat.le_trans (Nat.pow_le_pow_right (by decide) (show t≤3 by omega)) (by decide);obtain⟨t0,x',t1,t2⟩:=tm_sh hr hy q0.2 (Nat.mul_le_mul a2 b2) (D.s t k j ht hk' hj) (D.p _ _) (D.b _ _ (by omega) hj) (c:=3 ^ t) (Nat.le_trans h3t (by decide));rw [t0];have hcc:pS m.tags.length t (fun _=>1) k*3 ^ t+3 ^ t≤10 ^ 4:=by have k1:=Nat.mul_le_mul (show pS m.tags.length t (fun _=>1) k≤2 by omega) h3t;refine Nat.le_trans (Nat.add_le_add k1 h3t) (by decide)
   obtain⟨p0,p1,p2⟩:=ps_sh hi hx t1 t2 (D.b _ _ (by omega) hj) hcc;refine⟨p0,_,p1,?_⟩;rw [Nat.add_mul,Nat.one_mul];exact p2
  ·rw [h2 hk',if_neg hk'];exact⟨e,x,hi,hx⟩
theorem zvU(H:Sh m cs)(D:Den m cs P PF){t:Nat}(ht:t<cs.length){bef:Nat→Option Str}(hs:StP m P t bef):
 ∀ k,k≤m.tags.length→(rowK stS plS m [48] bef (cs.getD t 0) 0 k).2=0∧(∀ j,j<k→∃ u,(rowK stS plS m [48] bef (cs.getD t 0) 0 k).1[j]? =some u∧∃ x,Is u x (P (t+1) j)∧x≤3 ^ (t+1)*P (t+1) j)
 |0,_=>⟨rfl,fun j hj=>by omega⟩
 |k+1,hk=>by
  have hl:=zbQ stS plS m [48] bef (cs.getD t 0) 0 k;obtain⟨e,hi⟩:=zvU H D ht hs k (by omega);rw [rowK];dsimp only;rw [e];obtain⟨e2,x,h2,h3⟩:=zvW H D ht (show k<m.tags.length by omega) hs (m.tags.length+1) (Nat.le_refl _);refine⟨e2,fun j hj=>?_⟩;rcases Nat.lt_or_ge j k with h|h
  ·obtain⟨u,hu,hr⟩:=hi j h;exact⟨u,by rw [List.getElem?_append_left (by omega)];exact hu,hr⟩
  ·have:j=k:=by omega
   subst this;refine⟨_,by rw [List.getElem?_append_right (by omega),hl,Nat.sub_self];rfl,x,h2,Nat.le_trans h3 ?_⟩;rw [Nat.pow_succ,Nat.mul_comm (3 ^ t) 3];exact Nat.mul_le_mul_right _ (Nat.mul_le_mul_right _ (cnt_le H.n (Nat.le_refl _)))
theorem fwd_sh(H:Sh m cs)(D:Den m cs P PF):∀ t,t≤cs.length→(fwdT stS plS m [48] [49] cs t).2=0∧StP m P t (befT m [49] t (fwdT stS plS m [48] [49] cs t).1)
 |0,_=>⟨rfl,fun i hi=>by
  unfold befT;simp only [if_true,src,List.mem_singleton];constructor
  ·intro h;rw [if_pos h];subst h;exact⟨_,rfl,1,by rw [D.z];exact zmA,by rw [D.z];decide⟩
  ·intro h;rw [if_neg h]⟩
 |t+1,ht=>by
  obtain⟨e,hi⟩:=fwd_sh H D t (by omega);rw [fwdT,e];have hl:=zbQ stS plS m [48] (befT m [49] t (fwdT stS plS m [48] [49] cs t).1) (cs.getD t 0) 0 m.tags.length;obtain⟨e2,h2⟩:=zvU H D (show t<cs.length by omega) hi m.tags.length (Nat.le_refl _);refine⟨e2,fun i hi=>?_⟩;have es:src m.tags.length (t+1)=List.range m.tags.length:=by simp [src]
  rw [show ∀ l:List Str,befT m [49] (t+1) l i=l[i]? from fun l=>if_neg (by omega),es,List.mem_range];refine⟨fun h=>h2 i h,fun h=>?_⟩;rw [List.getElem?_eq_none (by rw [hl];omega)]
theorem zye(H:Sh m cs)(D:Den m cs P PF){bef:Nat→Option Str}(hs:StP m P cs.length bef):
 ∀ k,k≤m.tags.length+1→(fin1 stS plS m [48] bef 0 k).2=0∧∃ x,Is (fin1 stS plS m [48] bef 0 k).1 x PF∧x≤pS m.tags.length cs.length (fun _=>1) k*3 ^ cs.length*PF
 |0,_=>⟨rfl,0,zfU D.pf,Nat.zero_le _⟩
 |k+1,hk=>by
  obtain⟨e,x,hi,hx⟩:=zye H D hs k (by omega);have hcnt:=cnt_le (t:=cs.length) H.n hk;have hT:=H.t;rw [fin1];rw [zht]at hcnt ⊢;obtain⟨h1,h2⟩:=hs k (by omega);by_cases hk':k∈src m.tags.length cs.length
  ·obtain⟨u,hu,y,hr,hy⟩:=h1 hk';rw [if_pos hk']at hcnt ⊢;rw [hu];dsimp only;rw [e,zej];obtain⟨a1,a2,a3⟩:=zcf (H.N k _ (zql hk') (Nat.le_refl _));have h3t:3 ^ cs.length≤81:=Nat.le_trans (Nat.pow_le_pow_right (by decide) hT) (by decide);obtain⟨t0,x',t1,t2⟩:=tm_sh hr hy a1 a2 (D.f k hk') D.pf D.bf (c:=3 ^ cs.length) (Nat.le_trans h3t (by decide));rw [t0];have hcc:pS m.tags.length cs.length (fun _=>1) k*3 ^ cs.length+3 ^ cs.length≤10 ^ 4:=by have k1:=Nat.mul_le_mul (show pS m.tags.length cs.length (fun _=>1) k≤2 by omega) h3t;refine Nat.le_trans (Nat.add_le_add k1 h3t) (by decide)
   obtain⟨p0,p1,p2⟩:=ps_sh hi hx t1 t2 D.bf hcc;refine⟨p0,_,p1,?_⟩;rw [Nat.add_mul,Nat.one_mul];exact p2
  ·rw [h2 hk',if_neg hk'];exact⟨e,x,hi,hx⟩
theorem fin_sh(H:Sh m cs)(D:Den m cs P PF):(finT stS plS m [48] [49] cs).2=0:=by unfold finT;obtain⟨e,hi⟩:=fwd_sh H D cs.length (Nat.le_refl _);rw [e];exact(zye H D hi (m.tags.length+1) (Nat.le_refl _)).1
end
end Go.Proofs

namespace Go.Proofs
open Go.Ab Go.Cnt Go.Pl Go.Tg
theorem zoH(e:Nat):1≤10 ^ e:=Nat.pow_pos (by decide)
theorem zoT {n a b:Nat}(h:n≤10 ^ a)(k:a≤b):n≤10 ^ b:=Nat.le_trans h (Nat.pow_le_pow_right (by decide) k)
def pr3(f:Nat→Nat):Nat:=f 0*f 1*f 2
theorem lt3 {P:Nat→Prop}(h0:P 0)(h1:P 1)(h2:P 2):∀ k,k<3→P k:=fun k hk=>by
 match k with
 |0=>exact h0
 |1=>exact h1
 |2=>exact h2
 |k+3=>omega
theorem zov(f:Nat→Nat):∀ k,k<3→f k ∣ pr3 f:=lt3 (P:=fun k=>f k ∣ pr3 f) (Nat.dvd_mul_right_of_dvd (Nat.dvd_mul_right _ _) _) (Nat.dvd_mul_right_of_dvd (Nat.dvd_mul_left _ _) _) (Nat.dvd_mul_left _ _)
theorem ze6 {f g:Nat→Nat}(h:∀ k,k<3→f k ∣ g k):pr3 f ∣ pr3 g:=Nat.mul_dvd_mul (Nat.mul_dvd_mul (h 0 (by decide)) (h 1 (by decide))) (h 2 (by decide))
theorem zwu {f g:Nat→Nat}(h:∀ k,k<3→f k≤g k):pr3 f≤pr3 g:=Nat.mul_le_mul (Nat.mul_le_mul (h 0 (by decide)) (h 1 (by decide))) (h 2 (by decide))
theorem zou {f:Nat→Nat}(h:∀ k,k<3→0<f k):0<pr3 f:=Nat.mul_pos (Nat.mul_pos (h 0 (by decide)) (h 1 (by decide))) (h 2 (by decide))
theorem zwv(f:Nat→Nat)(d:Nat):∀ i,i<3→pr3 f*d=pr3 fun k=>f k*(if k=i then d else 1):=lt3 (P:=fun i=>pr3 f*d=pr3 fun k=>f k*(if k=i then d else 1))
 (by simp only [pr3];rw [if_pos trivial,if_neg (by decide),if_neg (by decide)];ac_rfl) (by simp only [pr3];rw [if_neg (by decide),if_pos trivial,if_neg (by decide)];ac_rfl) (by simp only [pr3];rw [if_neg (by decide),if_neg (by decide),if_pos trivial];ac_rfl)
def me(t j k l:Nat):Nat:=if k=l then(if k=j then t else t - 1)else if l=j then(t+1) / 2 else t / 2
def mf(k l:Nat):Nat:=if k=l then 3 else 2
theorem me_step:∀ t,t<3→∀ i,i<3→∀ j,j<3→∀ k,k<3→∀ l,l<3→me t i k l+(if k=i∧l=j then 1 else 0)≤me (t+1) j k l:=by decide
theorem zxb:∀ t,t<4→∀ j,j<3→∀ k,k<3→∀ l,l<3→me t j k l≤mf k l:=by decide
def pK(A:Nat→Nat→Nat)(e:Nat→Nat→Nat):Nat:=pr3 fun k=>pr3 fun l=>A k l ^ e k l
theorem pK_step {A:Nat→Nat→Nat}{e e':Nat→Nat→Nat}{i j:Nat}(hi:i<3)(hj:j<3)(h:∀ k,k<3→∀ l,l<3→e k l+(if k=i∧l=j then 1 else 0)≤e' k l):pK A e*A i j ∣ pK A e':=by
 unfold pK;rw [zwv _ _ i hi];refine ze6 fun k hk=>?_;by_cases h1:k=i
 ·subst h1;rw [if_pos rfl,zwv _ _ j hj];refine ze6 fun l hl=>?_;have h2:=h k hk l hl;by_cases h3:l=j
  ·subst h3;rw [if_pos rfl, ←Nat.pow_succ];rw [if_pos ⟨rfl,rfl⟩]at h2;exact Nat.pow_dvd_pow _ h2
  ·rw [if_neg h3,Nat.mul_one];exact Nat.pow_dvd_pow _ (by omega)
 ·rw [if_neg h1,Nat.mul_one];exact ze6 fun l hl=>Nat.pow_dvd_pow _ (by have:=h k hk l hl;omega)
theorem zwI {A:Nat→Nat→Nat}{e e':Nat→Nat→Nat}(h:∀ k,k<3→∀ l,l<3→e k l≤e' k l):pK A e ∣ pK A e':=ze6 fun k hk=>ze6 fun l hl=>Nat.pow_dvd_pow _ (h k hk l hl)
theorem pK_pos {A:Nat→Nat→Nat}(e:Nat→Nat→Nat)(h:∀ k l,0<A k l):0<pK A e:=zou fun k _=>zou fun l _=>Nat.pow_pos (h k l)
theorem pK_le {A:Nat→Nat→Nat}{M:Nat}(h:∀ k l,A k l≤M):pK A mf≤M ^ 21:=by have h1:pK A mf≤pr3 fun k=>pr3 fun l=>M ^ mf k l:=zwu fun k _=>zwu fun l _=>Nat.pow_le_pow_left (h k l) _;refine Nat.le_trans h1 (Nat.le_of_eq ?_);show (M ^ 3*M ^ 2*M ^ 2)*(M ^ 2*M ^ 3*M ^ 2)*(M ^ 2*M ^ 2*M ^ 3)=M ^ 21;simp only [←Nat.pow_add,Nat.reduceAdd]
section
variable(m:Mdl)(cs:List Nat)
def aC(k l:Nat):Nat:=if k<m.tags.length∧l<m.tags.length then den (nx m k l)else 1
def sC(k:Nat):Nat:=if k<m.tags.length then den (nx m m.tags.length k)else 1
def qC(t k:Nat):Nat:=if k<m.tags.length∧t<cs.length then den (em m k (cs.getD t 0))else 1
def fC(k:Nat):Nat:=if k<m.tags.length then den (nx m k m.tags.length)else 1
def QQ:Nat→Nat
 |0=>1
 |t+1=>QQ t*pr3 (qC m cs t)
def pP:Nat→Nat→Nat
 |0,_=>1
 |t+1,j=>pr3 (sC m)*QQ m cs (t+1)*pK (aC m) (me t j)
def pF:Nat:=if cs.length=0 then den (nx m m.tags.length m.tags.length)else pr3 (sC m)*QQ m cs cs.length*pK (aC m) mf*pr3 (fC m)
end
section
variable {m:Mdl}{cs:List Nat}
theorem aC_b(H:Sh m cs)(k l:Nat):0<aC m k l∧aC m k l≤10 ^ 10:=by
 unfold aC;split
 ·rename_i h;have:=H.N k l (by omega) (by omega);exact⟨zh2 this,(zcf this).2.2⟩
 ·exact⟨Nat.one_pos,by decide⟩
theorem sC_b(H:Sh m cs)(k:Nat):0<sC m k∧sC m k≤10 ^ 10:=by
 unfold sC;split
 ·rename_i h;have:=H.N m.tags.length k (by omega) (by omega);exact⟨zh2 this,(zcf this).2.2⟩
 ·exact⟨Nat.one_pos,by decide⟩
theorem fC_b(H:Sh m cs)(k:Nat):0<fC m k∧fC m k≤10 ^ 10:=by
 unfold fC;split
 ·rename_i h;have:=H.N k m.tags.length (by omega) (by omega);exact⟨zh2 this,(zcf this).2.2⟩
 ·exact⟨Nat.one_pos,by decide⟩
theorem qC_b(H:Sh m cs)(t k:Nat):0<qC m cs t k∧qC m cs t k≤10 ^ 10:=by
 unfold qC;split
 ·rename_i h;have:=H.E k t h.1 h.2;exact⟨zh2 this,(zcf this).2.2⟩
 ·exact⟨Nat.one_pos,by decide⟩
theorem pr3_b {f:Nat→Nat}(h:∀ k,0<f k∧f k≤10 ^ 10):0<pr3 f∧pr3 f≤10 ^ 30:=by refine⟨zou fun k _=>(h k).1,?_⟩;have:=zwu (f:=f) (g:=fun _=>10 ^ 10) fun k _=>(h k).2;exact this
theorem QQ_b(H:Sh m cs):∀ t,0<QQ m cs t∧QQ m cs t≤10 ^ (30*t)
 |0=>⟨Nat.one_pos,Nat.le_refl _⟩
 |t+1=>by obtain⟨h1,h2⟩:=QQ_b H t;obtain⟨h3,h4⟩:=pr3_b (qC_b H t);exact⟨Nat.mul_pos h1 h3,by rw [show 30*(t+1)=30*t+30 by omega];exact zdo h2 h4⟩
theorem pK_b(H:Sh m cs):pK (aC m) mf≤10 ^ (10*21):=by have:=pK_le (A:=aC m) (M:=10 ^ 10) fun k l=>(aC_b H k l).2;rwa [←Nat.pow_mul]at this
theorem pP_pos(H:Sh m cs):∀ t j,0<pP m cs t j
 |0,_=>Nat.one_pos
 |t+1,j=>Nat.mul_pos (Nat.mul_pos (pr3_b (sC_b H)).1 (QQ_b H _).1) (pK_pos _ fun k l=>(aC_b H k l).1)
theorem den_ex(H:Sh m cs):Den m cs (pP m cs) (pF m cs):=by
 have hn:=H.n;have hT:=H.t;have s3:=pr3_b (sC_b H);have f3:=pr3_b (fC_b H);have hKm:0<pK (aC m) mf:=pK_pos _ fun k l=>(aC_b H k l).1;have bP:∀ t j,t<cs.length→j<3→pr3 (sC m)*QQ m cs (t+1)*pK (aC m) (me t j)≤10 ^ (30+30*(t+1)+10*21):=fun t j ht hj=>
  zdo (zdo s3.2 (QQ_b H _).2) (Nat.le_trans (Nat.le_of_dvd hKm (zwI fun k hk l hl=>zxb t (by omega) j hj k hk l hl)) (pK_b H))
 refine⟨rfl,fun t i j ht hi hj=>?_,fun i hi=>?_,pP_pos H,?_,fun t j ht hj=>?_,?_⟩
 ·have hq:den (em m j (cs.getD t 0)) ∣ pr3 (qC m cs t):=by
   have:=zov (qC m cs t) j (by omega)
   rwa [show qC m cs t j=den (em m j (cs.getD t 0))from if_pos ⟨hj,ht⟩]at this
  cases t with
  |zero=>
   have:i=m.tags.length:=by simpa [src] using hi
   subst this;have hs:den (nx m m.tags.length j) ∣ pr3 (sC m):=by have:=zov (sC m) j (by omega);rwa [show sC m j=den (nx m m.tags.length j)from if_pos hj]at this
   show 1*_ ∣ pr3 (sC m)*(1*pr3 (qC m cs 0))*pK (aC m) (me 0 j);rw [Nat.one_mul,Nat.one_mul];exact Nat.dvd_mul_right_of_dvd (Nat.mul_dvd_mul hs hq) _
  |succ t=>
   have hi':i<m.tags.length:=by simpa [src] using hi
   have hk:pK (aC m) (me t i)*den (nx m i j) ∣ pK (aC m) (me (t+1) j):=by have:=pK_step (A:=aC m) (e:=me t i) (e':=me (t+1) j) (i:=i) (j:=j) (by omega) (by omega) (me_step t (by omega) i (by omega) j (by omega));rwa [show aC m i j=den (nx m i j)from if_pos ⟨hi',hj⟩]at this
   show pr3 (sC m)*QQ m cs (t+1)*pK (aC m) (me t i)*_ ∣ pr3 (sC m)*(QQ m cs (t+1)*pr3 (qC m cs (t+1)))*pK (aC m) (me (t+1) j);have e:pr3 (sC m)*QQ m cs (t+1)*pK (aC m) (me t i)*(den (nx m i j)*den (em m j (cs.getD (t+1) 0)))=pr3 (sC m)*(QQ m cs (t+1)*den (em m j (cs.getD (t+1) 0)))*(pK (aC m) (me t i)*den (nx m i j)):=by ac_rfl
   rw [e];exact Nat.mul_dvd_mul (Nat.mul_dvd_mul (Nat.dvd_refl _) (Nat.mul_dvd_mul (Nat.dvd_refl _) hq)) hk
 ·unfold pF;by_cases h0:cs.length=0
  ·rw [if_pos h0];rw [h0]at hi ⊢;have:i=m.tags.length:=by simpa [src] using hi
   subst this;show 1*_ ∣ _;rw [Nat.one_mul];exact Nat.dvd_refl _
  ·rw [if_neg h0];obtain⟨t,ht⟩:∃ t,cs.length=t+1:=⟨cs.length - 1,by omega⟩;rw [ht]at hi ⊢;have hi':i<m.tags.length:=by simpa [src] using hi
   have hf:den (nx m i m.tags.length) ∣ pr3 (fC m):=by have:=zov (fC m) i (by omega);rwa [show fC m i=den (nx m i m.tags.length)from if_pos hi']at this
   show pr3 (sC m)*QQ m cs (t+1)*pK (aC m) (me t i)*_ ∣ _;exact Nat.mul_dvd_mul (Nat.mul_dvd_mul (Nat.dvd_refl _) (zwI fun k hk l hl=>zxb t (by omega) i (by omega) k hk l hl)) hf
 ·unfold pF;split
  ·exact zh2 (H.N _ _ (Nat.le_refl _) (Nat.le_refl _))
  ·exact Nat.mul_pos (Nat.mul_pos (Nat.mul_pos s3.1 (QQ_b H _).1) hKm) f3.1
 ·cases t with
  |zero=>show 1≤10 ^ 390;exact zoH 390
  |succ t=>exact @zoT _ _ 390 (bP t j (by omega) (by omega)) (by omega)
 ·unfold pF;split
  ·exact @zoT _ _ 390 (zcf (H.N _ _ (Nat.le_refl _) (Nat.le_refl _))).2.2 (by decide)
  ·exact @zoT _ _ 390 (zdo (zdo (zdo s3.2 (QQ_b H _).2) (pK_b H)) f3.2) (by omega)
end
end Go.Proofs

namespace Go.Ab
theorem NCall.freeze {P:Program}{f:FuncId}{args:List V}{F:List Blk}{W:List Nat}{v0:V}{Hc0:Hp}(hN:NCall P f args F W v0 Hc0){v:V}{Hc:Hp}(fl:List Nat)
 (hfl:∀ b∈fl,F.length≤b∧∃ x,Hc0.get b=some x) (hW:∀ b∈W,∃ x,Hc0.get b=some x) (hv:Rn id (fun b=>¬b∈fl∧b<Hc.next) v v0∨FrzF Hc0 (· ∈fl) v0 v)
 (hh:∀ b x',Hc.get b=some x'→b<Hc.next∧¬b∈fl∧∃ x,Hc0.get b=some x∧FzB Hc0 (· ∈fl) Hc.next x' x) (hel:∀ b,b<F.length→Hc.get b=Hc0.get b) (hn:F.length≤Hc.next):NCall P f args F W v Hc:=by
 refine⟨hN.call,hN.sub,hn,fun g base w vs hgl hinv hvs hpw=>(hN.run g base w vs hgl hinv hvs hpw).mono fun e w' ⟨g1,vc,he,hv1,hp⟩=>?_⟩
 let C:Cfg:=⟨1,zbm [],noΓ,noΔ,F.length,W,zbm []⟩
 have hent:Entry C base (fun _=>True) g ⟨numB 0 F,F.length⟩ w:=⟨hinv,rfl,fun _ _=>trivial⟩
 have hr:Rel C base (fun _=>True) g ⟨numB 0 F,F.length⟩ w g1 ⟨[(0,v0)],Hc0⟩ { tmps:=#[vc],defers:=[] } w':=by
  refine⟨⟨hgl.mono hp.le.2,by simp [C],fun t x e=>?_⟩,rfl,hp⟩;rw [List.lookup_cons]at e;by_cases ht:t=0
  ·subst ht;simp only [beq_self_eq_true,Option.some.injEq]at e;subst e;exact hv1
  ·have hb:(t==0)=false:=by simp [ht]
   simp only [hb]at e;cases e
 have henv:∀ t v',([(0,v)]:Env).lookup t=some v'→v'=.any∨∃ u,([(0,v0)]:Env).lookup t=some u∧(Rn id (fun b=>¬b∈fl∧b<Hc.next) v' u∨FrzF Hc0 (· ∈fl) u v'):=fun t v' e=>by
  rw [List.lookup_cons]at e;by_cases ht:t=0
  ·subst ht;simp only [beq_self_eq_true,Option.some.injEq]at e;subst e;exact .inr ⟨v0,by simp,hv⟩
  ·have hb:(t==0)=false:=by simp [ht]
   simp only [hb]at e;cases e
 obtain⟨g2,h4⟩:=hr.freeze3 (F:=(· ∈fl)) (s':=⟨[(0,v)],Hc⟩) hent (fun b hb=>⟨hN.sub b hb,hW b hb⟩) ⟨henv,hh,hfl,hel,hn⟩
 exact⟨g2,vc,he,by simpa using h4.env.rel 0 v (by simp),h4.post⟩
end Go.Ab

namespace Go.Proofs
open Tryz Go.Ab Go.Cnt Go.Pl Go.Tg
theorem nanI_ok(n:Int):PCall prog 159 [.int .i64 n] (.ret (.bool false)):=by refine PCall.wD (rs:=[.tmp 2]) [0,2] [] mixed (zh) (zg) zy4 func159 rfl ntmps159 rfl ?_;simp only [go_sem]
noncomputable def cNanI:List V→Option PR:=zF (fun a:Int=>[.int .i64 a]) (fun _=>True) fun _=>.ret (.bool false)
@[go_sem] theorem cNanI_eq(a:Int):cNanI [.int .i64 a]=some (.ret (.bool false)):=zo (pat:=fun a:Int=>[.int .i64 a]) (fun x y h=>by simpa using h) a trivial
theorem cNanI_ok:∀ args r,cNanI args=some r→PCall prog 159 args r:=zn fun a _=>nanI_ok a
def cmpN(a b:Nat):Int:=if a<b then -1 else if b<a then 1 else 0
theorem cmpI_ok(a b:Nat):PCall prog 118 [.int .i64 a,.int .i64 b] (.ret (.int .i64 (cmpN a b))):=by
 obtain⟨R,hR⟩:∃ R,R=cmpN a b:=⟨_,rfl⟩;rw [←hR];unfold cmpN at hR;refine PCall.wD (rs:=[.tmp 4]) [0,1,4,5,6,11,12,13,16,19] [] mixed (zf cNanI_ok zh) (zg) zy8 func118 rfl ntmps118 rfl ?_;simp only [go_sem];refine AXc.introP (fun h1=>?_) (fun h1=>?_)
 ·rw [if_pos (by omega)]at hR;rw [hR];simp only [go_sem]
 ·rw [if_neg (by omega)]at hR;simp only [go_sem];refine AXc.introP (fun h2=>?_) (fun h2=>?_)
  ·rw [if_pos (by omega)]at hR;rw [hR];simp only [go_sem]
  ·rw [if_neg (by omega)]at hR;rw [hR];simp only [go_sem]
noncomputable def cCmpI:List V→Option PR:=zF (fun p:Nat×Nat=>[.int .i64 p.1,.int .i64 p.2]) (fun _=>True) fun p=>.ret (.int .i64 (cmpN p.1 p.2))
@[go_sem] theorem cCmpI_eq(a b:Nat):cCmpI [.int .i64 a,.int .i64 b]=some (.ret (.int .i64 (cmpN a b))):=zo (pat:=fun p:Nat×Nat=>[.int .i64 p.1,.int .i64 p.2]) (fun x y h=>by simp only [List.cons.injEq,V.int.injEq,true_and,and_true]at h;exact Prod.ext (by omega) (by omega)) (a,b) trivial
theorem cCmpI_ok:∀ args r,cCmpI args=some r→PCall prog 118 args r:=zn fun p _=>cmpI_ok p.1 p.2
theorem zfp:∀(i:Nat) (a b:List Nat),(∀ j,j<i→a.getD j 0=b.getD j 0)→i≤a.length→i≤b.length→cmpL a b=cmpL (a.drop i) (b.drop i)
 |0,_,_,_,_,_=>rfl
 |i+1,[],_,_,h,_=>by simp at h
 |i+1,_::_,[],_,_,h=>by simp at h
 |i+1,x::a,y::b,h,h1,h2=>by
  have e:x=y:=by simpa using h 0 (by omega)
  rw [cmpL,if_neg (by omega),if_neg (by omega)];exact zfp i a b (fun j hj=>by simpa using h (j+1) (by omega)) (by simpa using h1) (by simpa using h2)
theorem cmpL_at {i:Nat}{a b:List Nat}(h:∀ j,j<i→a.getD j 0=b.getD j 0)(h1:i<a.length)(h2:i<b.length)(hn:cmpN (a.getD i 0) (b.getD i 0)≠0):cmpL a b=cmpN (a.getD i 0) (b.getD i 0):=by
 rw [zfp i a b h (by omega) (by omega),List.drop_eq_getElem_cons h1,List.drop_eq_getElem_cons h2,cmpL];rw [List.getD_eq_getElem?_getD,List.getElem?_eq_getElem h1,List.getD_eq_getElem?_getD,List.getElem?_eq_getElem h2]at hn ⊢;unfold cmpN at hn ⊢;simp only [Option.getD_some]at hn ⊢;by_cases k1:a[i]<b[i]
 ·rw [if_pos k1,if_pos k1]
 ·rw [if_neg k1,if_neg k1];by_cases k2:b[i]<a[i]
  ·rw [if_pos k2,if_pos k2]
  ·rw [if_neg k1,if_neg k2]at hn;exact absurd rfl hn
theorem zps {a b:List Nat}(h:∀ j,j<b.length→a.getD j 0=b.getD j 0)(h1:b.length<a.length):cmpL a b=1:=by rw [zfp b.length a b h (by omega) (Nat.le_refl _),List.drop_length,List.drop_eq_getElem_cons h1];rfl
theorem cmpL_end {a b:List Nat}(h:∀ j,j<a.length→a.getD j 0=b.getD j 0)(h1:a.length≤b.length):cmpL a b=if a.length<b.length then -1 else 0:=by
 rw [zfp a.length a b h (Nat.le_refl _) h1,List.drop_length];split
 ·rename_i h2;rw [List.drop_eq_getElem_cons h2];rfl
 ·rw [List.drop_of_length_le (by omega)];rfl
theorem zyH {a b:Nat}(h:cmpN a b=0):a=b:=by
 unfold cmpN at h;by_cases h1:a<b
 ·rw [if_pos h1]at h;omega
 ·rw [if_neg h1]at h;by_cases h2:b<a
  ·rw [if_pos h2]at h;omega
  ·omega
theorem zpr(a b:List Nat)(ha:a.length≤1000000)(hb:b.length≤1000000):PCall prog 71 [.fs (nats .i64 a) a.length,.fs (nats .i64 b) b.length] (.ret (.int .i64 (cmpL a b))):=by
 have hΓ:=zf cCmpI_ok zh;obtain⟨R,hR⟩:∃ R,R=cmpL a b:=⟨_,rfl⟩;rw [←hR];refine PCall.wD (rs:=[.tmp 4]) [0,1,4,5,6,7,8,9,10,11,12,19,28,35] [] mixed (hΓ) (zg) call71 func71 rfl ntmps71 rfl ?_;simp only [go_sem];refine AXs.loop mixed (hΓ) (zg) (fun i:Nat=>[(0,.fs (nats .i64 a) a.length),(1,.fs (nats .i64 b) b.length),(9,.fs (nats .i64 a) a.length),(10,.int .i64 a.length),(11,.int .i64 i)]) (fun _=>⟨[],0⟩) (fun i=>i≤a.length∧i≤b.length∧∀ j,j<i→a.getD j 0=b.getD j 0) (fun i=>a.length - i) 0 (by kernel_rfl) ⟨Nat.zero_le _,Nat.zero_le _,fun j hj=>by omega⟩ (Sub.of0 [] rfl rfl ?_ ?_) ?_
 ·simp only [go_sem]
 ·simp only [go_sem]
 rintro i ⟨h1,h2,h3⟩;simp only [go_sem];refine AXc.introP (fun h4=>?_) (fun h4=>?_)
 ·have hi:i<a.length:=by omega
  simp (disch:=first|assumption|(push_cast<;>omega)|omega) only [go_sem]
  (repeat refine sdC ?_);refine AXc.introP (fun h5=>?_) (fun h5=>?_)
  ·have e:i=b.length:=by omega
   subst e;rw [hR,zps h3 hi];simp (disch:=first|assumption|(push_cast<;>omega)|omega) only [go_sem]
  ·simp (disch:=first|assumption|(push_cast<;>omega)|omega) only [go_sem]
   (repeat refine sdC ?_);refine AXc.introN (fun h6=>?_) (fun h6=>?_)
   ·rw [hR,cmpL_at h3 hi (by omega) h6];simp (disch:=first|assumption|(push_cast<;>omega)|omega) only [go_sem]
   ·simp (disch:=first|assumption|(push_cast<;>omega)|omega) only [go_sem];refine zk (i+1) ⟨by omega,by omega,fun j hj=>?_⟩ (by omega) (Sub.of0 [] rfl rfl ?_ ?_)
    ·by_cases hji:j<i
     ·exact h3 j hji
     ·obtain rfl:j=i:=by omega
      exact zyH h6
    ·simp only [go_sem];simp
    ·simp only [go_sem]
 ·obtain rfl:i=a.length:=by omega
  have e:=cmpL_end h3 h2;rw [hR,e];simp only [go_sem];refine AXa.go mixed (hΓ) (zg) (by kernel_rfl) ?_;simp only [go_sem];refine AXc.introP (fun h6=>?_) (fun h6=>?_)
  ·rw [if_pos (by omega)];simp only [go_sem]
  ·rw [if_neg (by omega)];simp only [go_sem]
noncomputable def cCmpL:List V→Option PR:=zF (fun p:List Nat×List Nat=>[.fs (nats .i64 p.1) p.1.length,.fs (nats .i64 p.2) p.2.length]) (fun p=>p.1.length≤1000000∧p.2.length≤1000000) fun p=>.ret (.int .i64 (cmpL p.1 p.2))
theorem cCmpL_eq(a b:List Nat)(ha:a.length≤1000000)(hb:b.length≤1000000):cCmpL [.fs (nats .i64 a) a.length,.fs (nats .i64 b) b.length]=some (.ret (.int .i64 (cmpL a b))):=
 zo (pat:=fun p:List Nat×List Nat=>[.fs (nats .i64 p.1) p.1.length,.fs (nats .i64 p.2) p.2.length]) (fun x y h=>by simp only [List.cons.injEq,V.fs.injEq,and_true]at h;exact Prod.ext (zan h.1.1) (zan h.2.1)) (a,b) ⟨ha,hb⟩
theorem cCmpL_ok:∀ args r,cCmpL args=some r→PCall prog 71 args r:=zn fun p h=>zpr p.1 p.2 h.1 h.2
def tgV(l:List Nat):V:=if l=[]then .nilS else .fs (nats .i64 l) l.length
def tlV(x:TL):V:=.agg [.str x.1,tgV x.2]
theorem zn0:tgV []=.nilS:=rfl
theorem zlF {l:List Nat}(h:l≠[]):tgV l=.fs (nats .i64 l) l.length:=if_neg h
theorem zqf(l:List Nat):Pure (tgV l):=by
 unfold tgV;split
 ·exact .nilS
 ·exact .fs (zY _ _)
theorem tgV_inj {a b:List Nat}(h:tgV a=tgV b):a=b:=by
 unfold tgV at h;split at h<;>split at h
 ·rename_i h1 h2;rw [h1,h2]
 ·cases h
 ·cases h
 ·simp only [V.fs.injEq]at h;exact zan h.1
theorem znZ {a b:TL}(h:tlV a=tlV b):a=b:=by simp only [tlV,V.agg.injEq,List.cons.injEq,V.str.injEq,and_true]at h;exact Prod.ext h.1 (tgV_inj h.2)
theorem zba(x:TL):Pure (tlV x):=.agg fun v h=>by
 simp only [List.mem_cons,List.not_mem_nil,or_false]at h;rcases h with rfl|rfl
 ·exact .str _
 ·exact zqf _
theorem tgV_one(l:List Nat):(tgV l).one=true:=by unfold tgV;split<;>rfl
theorem tgV_refs(l:List Nat):zdl (tgV l)=[]:=by unfold tgV;split<;>rfl
theorem nz_tgV(l:List Nat):nz (tgV l)=.fs (nats .i64 l) l.length:=by
 by_cases h:l=[]
 ·subst h;rfl
 ·rw [zlF h];rfl
attribute [go_sem] tgV_one tgV_refs nz_tgV
theorem betT_ok(x y:TL)(lx:x.1.length≤1000000000)(ly:y.1.length≤1000000000)(mx:x.2.length≤1000000)(my:y.2.length≤1000000):PCall prog 40 [tlV x,tlV y] (.ret (tlV (betT x y))):=by
 have hΓ:=zf zjw (zf cCmpL_ok zh);have c1:=zut x.1 y.1 lx ly;have c2:=cCmpL_eq y.2 x.2 my mx;obtain⟨R,hR⟩:∃ R,R=betT x y:=⟨_,rfl⟩;rw [←hR];unfold betT at hR;refine PCall.walk (rs:=[.cell 4 67]) [0,1,2,3,4,5,29] [67] mixed (hΓ) (zg) call40 func40 rfl ntmps40 rfl (by kernel_rfl) (by simp) (by simp [push_cast,zba]) ?_;obtain⟨p,a⟩:=x;obtain⟨q,b⟩:=y;unfold tlV;dsimp only at c1 c2 hR ⊢;simp (disch:=first|assumption|(push_cast<;>omega)|omega) only [go_sem,c1,c2];refine⟨fun h=>⟨h,fun k=>by rw [h,k];rfl⟩,fun h=>⟨h,fun k=>by rw [h,k];rfl⟩,?_⟩;have hd:(decide (zaG p q<0)||decide (zaG p q=0)&& !decide (q=[48])&&decide (cmpL b a<0))=decide (zaG p q<0∨zaG p q=0∧q≠[48]∧cmpL b a<0):=by rw [Bool.eq_iff_iff];simp [and_assoc]
 rw [hd];refine AXc.introP (fun h=>?_) (fun h=>?_)
 ·rw [if_pos h]at hR;rw [hR];simp (disch:=first|assumption|(push_cast<;>omega)|omega) only [go_sem];exact .pure (zba (q,b))
 ·rw [if_neg h]at hR;rw [hR];simp (disch:=first|assumption|(push_cast<;>omega)|omega) only [go_sem];exact .pure (zba (p,a))
noncomputable def cBetT:List V→Option PR:=zF (fun p:TL×TL=>[tlV p.1,tlV p.2]) (fun p=>(p.1.1.length≤1000000000∧p.2.1.length≤1000000000)∧p.1.2.length≤1000000∧p.2.2.length≤1000000) fun p=>.ret (tlV (betT p.1 p.2))
theorem zrt(x y:TL)(lx:x.1.length≤1000000000)(ly:y.1.length≤1000000000)(mx:x.2.length≤1000000)(my:y.2.length≤1000000):cBetT [tlV x,tlV y]=some (.ret (tlV (betT x y))):=
 zo (pat:=fun p:TL×TL=>[tlV p.1,tlV p.2]) (fun a b h=>by simp only [List.cons.injEq,and_true]at h;exact Prod.ext (znZ h.1) (znZ h.2)) (x,y) ⟨⟨lx,ly⟩,mx,my⟩
theorem cBetT_ok:∀ args r,cBetT args=some r→PCall prog 40 args r:=zn fun p h=>betT_ok p.1 p.2 h.1.1 h.1.2 h.2.1 h.2.2
theorem eq_fsN {l:List Nat}(h:l≠[])(H:Hp):aBin prog .eql 38 (.fs (nats .i64 l) l.length) .nilS H=⟨True,.bool false,H,[],[]⟩:=by obtain⟨d,r,rfl⟩:=List.exists_cons_of_ne_nil h;simp [aBin,xEq,eqV,Tryz.underlying38,XR.ar]
theorem eq_nilN(H:Hp):aBin prog .eql 38 .nilS .nilS H=⟨True,.bool true,H,[],[]⟩:=by simp [aBin,xEq,eqV,Tryz.underlying38,XR.ar]
theorem zyM(l:List Nat)(hl:l.length≤1000000)(hne:l≠[]):NCall prog 38 [.fs (nats .i64 l) l.length] [] [] (.sl 0 0 l.length 1 none) ⟨[(0,.cells (nats .i64 l))],1⟩:=by
 have hp:0<l.length:=List.length_pos_iff.2 hne;have h0:(l.length=0)=False:=eq_false (by omega);have h1:(l.length≤0)=False:=eq_false (by omega);refine NCall.walk (rs:=[.tmp 2]) [0,2,4] [] 0 mixed (zh) (zg) call38 func38 rfl ntmps38 rfl (by kernel_rfl) (by simp) (by simp) (by simp) ?_;simp (disch:=first|assumption|(push_cast<;>omega)|omega) only [go_sem,eq_fsN hne,h0,h1,if_false];refine⟨⟨by omega,by omega⟩,[(2,.sl 0 0 l.length 1 none)],Sub.of [(0,1)] rfl ?_ ?_ (by decide) (fun b hb _=>absurd hb (Nat.not_lt_zero b)),rfl⟩
 ·simp only [go_sem]
 ·simp only [go_sem]
theorem zyJ:NCall prog 38 [.nilS] [] [] .nilS ⟨[],0⟩:=by
 refine NCall.walk (rs:=[.tmp 2]) [0,2,4] [] 0 mixed (zh) (zg) call38 func38 rfl ntmps38 rfl (by kernel_rfl) (by simp) (by simp) (by simp) ?_;simp (disch:=first|assumption|(push_cast<;>omega)|omega) only [go_sem,eq_nilN];exact⟨[(2,.nilS)],Sub.of [] rfl (by simp only [go_sem]) (by simp only [go_sem]) (by decide) (fun b hb _=>absurd hb (Nat.not_lt_zero b)),rfl⟩
def zrO(args:List V)(H:Hp)(r:AR):Prop:=(∀ b x,H.get b=some x→b<H.next)∧((args=[.nilS]∧r=⟨True,.nilS,H,[],[]⟩)∨
 ∃ l:List Nat,l≠[]∧l.length≤1000000∧args=[.fs (nats .i64 l) l.length]∧r=⟨True,.sl H.next 0 l.length 1 none,⟨(H.next,.cells (nats .i64 l))::H.bs,H.next+1⟩,[],[]⟩)
theorem zyK:∀ args H r,zrO args H r→HCall prog 38 args H r:=by
 rintro args H r ⟨hk,h⟩;rcases h with⟨rfl,rfl⟩|⟨l,hne,hl,rfl,rfl⟩
 ·exact HCall.plain zyJ .nilS (fun x hx=>by rw [List.mem_singleton.1 hx];exact .nilS) H hk
 ·exact HCall.fresh (zyM l hl hne) (zY _ _) [] _ H rfl .nil (zA fun x hx=>by rw [List.mem_singleton.1 hx];exact .fs (zY _ _)) (fun i x hx=>by simp at hx) (fun i x hx=>by simp at hx) hk
theorem zjs(bs:List (Nat×Blk))(n:Nat)(hk:((keysB bs).all fun b=>decide (b<n))=true):conD zrO [.nilS] ⟨bs,n⟩=some ⟨True,.nilS,⟨bs,n⟩,[],[]⟩:=by
 refine zaD ⟨zbp hk,.inl ⟨rfl,rfl⟩⟩ fun r' ⟨_,h⟩=>?_;rcases h with⟨_,e⟩|⟨l,_,_,e,_⟩
 ·exact e
 ·cases e
theorem zyL(l:List Nat)(bs:List (Nat×Blk))(n:Nat)(hl:l.length≤1000000)(hne:l≠[])(hk:((keysB bs).all fun b=>decide (b<n))=true):conD zrO [.fs (nats .i64 l) l.length] ⟨bs,n⟩=some ⟨True,.sl n 0 l.length 1 none,⟨(n,.cells (nats .i64 l))::bs,n+1⟩,[],[]⟩:=by
 refine zaD ⟨zbp hk,.inr ⟨l,hne,hl,rfl,rfl⟩⟩ fun r' ⟨_,h⟩=>?_;rcases h with⟨e,_⟩|⟨l',_,_,e,e'⟩
 ·cases e
 ·simp only [List.cons.injEq,V.fs.injEq,and_true]at e;rw [e',zan e.1]
noncomputable def ΔS:FuncId→List V→Hp→Option AR:=zbJ 36 (conD (znN zdG)) (zbJ 38 (conD zrO) noΔ)
theorem zu1:zaT prog ΔS:=zV (zaq (zel zdG fun x r h=>zjT r x.1 x.2 h.1 h.2)) (zV (zaq zyK) zg)
theorem zgL(b:Nat)(r:Run)(p q:Str)(bs:List (Nat×Blk))(n:Nat)(lp:p.length≤1000000000)(lq:q.length≤1000000000)(hb:zar bs b=some (.cells (runC r)))(hk:((keysB bs).all fun b=>decide (b<n))=true):
 ΔS 36 [.ptr b 0,.str p,.str q] ⟨bs,n⟩=some ⟨True,.str (tm r.f p q).1,(⟨bs,n⟩:Hp).put b (.cells (runC ⟨r.m,r.cs,(tm r.f p q).2⟩)),[b],[b]⟩:=zem zdG (x:=(p,q)) (s:=r) ⟨lp,lq⟩ hb hk
def jV(j:List Nat):Int:=match j with|[]=> -1|k::_=>k
theorem stL_N0(r:Run)(u:TL)(j:List Nat)(hj:j=[]∨∃ k,j=[k])(q:Str)(lu:u.1.length≤1000000000)(lq:q.length≤1000000000)(mu:u.2.length≤1000000)(ht:(tm r.f u.1 q).1≠[48])(hne:u.2++j≠[]):
 NCall prog 37 [tlV u,.int .i64 (jV j),.str q,.ptr 1 0] [.cells (runC r),.cells [.ptr 0 0]] [0] (.agg [.str (tm r.f u.1 q).1,.sl 2 0 (u.2++j).length 1 none]) ⟨[(3,.cells [.str (tm r.f u.1 q).1,.sl 2 0 (u.2++j).length 1 none]),(2,.cells (nats .i64 (u.2++j))),(0,.cells (runC ⟨r.m,r.cs,(tm r.f u.1 q).2⟩)),(1,.cells [.ptr 0 0])],4⟩:=by
 obtain⟨p,a⟩:=u
 dsimp only at lu mu ht hne ⊢
 have t1:ΔS 36 [.ptr 0 0,.str p,.str q] ⟨[(2,.cells [.str [],.nilS]),(0,.cells (runC r)),(1,.cells [.ptr 0 0])],3⟩=some ⟨True,.str (tm r.f p q).1,⟨[(2,.cells [.str [],.nilS]),(0,.cells (runC ⟨r.m,r.cs,(tm r.f p q).2⟩)),(1,.cells [.ptr 0 0])],3⟩,[0],[0]⟩:=zgL 0 r p q _ 3 lu lq rfl rfl
 unfold tlV
 refine NCall.walkW (rs:=[.cell 7 67]) [0,1,2,3,4,7,8,15,22] [67] 2 [0] mixed (zh) (zu1) call37 func37 rfl ntmps37 rfl (by kernel_rfl) (by simp) (by simp) (by simp) (by simp) ?_
 simp (disch:=first|assumption|(push_cast<;>omega)|omega) only [go_sem,t1]
 generalize tm r.f p q=z at ht ⊢
 obtain⟨z1,z2⟩:=z
 dsimp only at ht ⊢
 refine⟨rfl,?_⟩
 refine AXc.introP (fun h=>absurd h ht) (fun h=>?_)
 by_cases ha:a=[]
 ·subst ha
  rcases hj with rfl|⟨k,rfl⟩
  ·exact absurd rfl hne
  have c1:ΔS 38 [.nilS] ⟨[(2,.cells [.str [],.nilS]),(0,.cells (runC ⟨r.m,r.cs,z2⟩)),(1,.cells [.ptr 0 0])],3⟩=some ⟨True,.nilS,⟨[(2,.cells [.str [],.nilS]),(0,.cells (runC ⟨r.m,r.cs,z2⟩)),(1,.cells [.ptr 0 0])],3⟩,[],[]⟩:=zjs _ _ rfl
  have e1:decide (0≤(k:Int))=true:=decide_eq_true (by omega)
  simp (disch:=first|assumption|(push_cast<;>omega)|omega) only [go_sem,zn0,c1,jV,e1,List.nil_append]
  refine⟨[(7,.ptr 3 0)],Sub.of [(3,2),(2,4)] rfl ?_ ?_ (by decide) (fun b hb hw=>?_),?_⟩
  ·simp only [go_sem]
  ·simp only [go_sem]
   rfl
  ·rcases b with _|_|b
   ·exact absurd (List.mem_singleton.2 rfl) hw
   ·rfl
   ·exact absurd hb (by simp)
  ·simp only [go_sem]
 ·have c1:ΔS 38 [.fs (nats .i64 a) a.length] ⟨[(2,.cells [.str [],.nilS]),(0,.cells (runC ⟨r.m,r.cs,z2⟩)),(1,.cells [.ptr 0 0])],3⟩=some ⟨True,.sl 3 0 a.length 1 none,⟨[(3,.cells (nats .i64 a)),(2,.cells [.str [],.nilS]),(0,.cells (runC ⟨r.m,r.cs,z2⟩)),(1,.cells [.ptr 0 0])],4⟩,[],[]⟩:=zyL a _ _ mu ha rfl
  rcases hj with rfl|⟨k,rfl⟩
  ·simp (disch:=first|assumption|(push_cast<;>omega)|omega) only [go_sem,zlF ha,c1,jV,List.append_nil]
   refine⟨[(7,.ptr 3 0)],Sub.of [(3,2),(2,3)] rfl ?_ ?_ (by decide) (fun b hb hw=>?_),?_⟩
   ·simp only [go_sem]
   ·simp only [go_sem]
   ·rcases b with _|_|b
    ·exact absurd (List.mem_singleton.2 rfl) hw
    ·rfl
    ·exact absurd hb (by simp)
   ·simp only [go_sem]
  ·have e1:decide (0≤(k:Int))=true:=decide_eq_true (by omega)
   have tk:List.take a.length a=a:=List.take_length
   have nl:(a++[k]).length=a.length+1:=by simp
   simp (disch:=first|assumption|(push_cast<;>omega)|omega) only [go_sem,zlF ha,c1,jV,e1]
   rw [nl]
   refine⟨⟨by omega,by omega⟩,[(7,.ptr 3 0)],Sub.of [(3,2),(2,5)] rfl ?_ ?_ (by decide) (fun b hb hw=>?_),?_⟩
   ·simp only [go_sem]
   ·simp only [go_sem,tk]
   ·rcases b with _|_|b
    ·exact absurd (List.mem_singleton.2 rfl) hw
    ·rfl
    ·exact absurd hb (by simp)
   ·simp only [go_sem]
theorem stL_NZ(r:Run)(u:TL)(j:List Nat)(hj:j=[]∨∃ k,j=[k])(q:Str)(lu:u.1.length≤1000000000)(lq:q.length≤1000000000)(mu:u.2.length≤1000000)(hz:(tm r.f u.1 q).1=[48]∨u.2++j=[]):
 NCall prog 37 [tlV u,.int .i64 (jV j),.str q,.ptr 1 0] [.cells (runC r),.cells [.ptr 0 0]] [0] (.agg [.str (tm r.f u.1 q).1,.nilS]) ⟨[(2,.cells [.str (tm r.f u.1 q).1,.nilS]),(0,.cells (runC ⟨r.m,r.cs,(tm r.f u.1 q).2⟩)),(1,.cells [.ptr 0 0])],3⟩:=by
 obtain⟨p,a⟩:=u
 dsimp only at lu mu hz ⊢
 have t1:ΔS 36 [.ptr 0 0,.str p,.str q] ⟨[(2,.cells [.str [],.nilS]),(0,.cells (runC r)),(1,.cells [.ptr 0 0])],3⟩=some ⟨True,.str (tm r.f p q).1,⟨[(2,.cells [.str [],.nilS]),(0,.cells (runC ⟨r.m,r.cs,(tm r.f p q).2⟩)),(1,.cells [.ptr 0 0])],3⟩,[0],[0]⟩:=zgL 0 r p q _ 3 lu lq rfl rfl
 unfold tlV
 refine NCall.walkW (rs:=[.cell 7 67]) [0,1,2,3,4,7,8,15,22] [67] 2 [0] mixed (zh) (zu1) call37 func37 rfl ntmps37 rfl (by kernel_rfl) (by simp) (by simp) (by simp) (by simp) ?_
 simp (disch:=first|assumption|(push_cast<;>omega)|omega) only [go_sem,t1]
 generalize tm r.f p q=z at hz ⊢
 obtain⟨z1,z2⟩:=z
 dsimp only at hz ⊢
 refine⟨rfl,?_⟩
 refine AXc.introP (fun h=>?_) (fun h=>?_)
 ·simp (disch:=first|assumption|(push_cast<;>omega)|omega) only [go_sem]
  refine⟨[(7,.ptr 2 0)],Sub.of [] rfl ?_ ?_ (by decide) (fun b hb hw=>?_),?_⟩
  ·simp only [go_sem]
  ·simp only [go_sem]
  ·rcases b with _|_|b
   ·exact absurd (List.mem_singleton.2 rfl) hw
   ·rfl
   ·exact absurd hb (by simp)
  ·simp only [go_sem]
 ·have hnil:=hz.resolve_left h
  obtain⟨rfl,rfl⟩:=List.append_eq_nil_iff.1 hnil
  have c1:ΔS 38 [.nilS] ⟨[(2,.cells [.str [],.nilS]),(0,.cells (runC ⟨r.m,r.cs,z2⟩)),(1,.cells [.ptr 0 0])],3⟩=some ⟨True,.nilS,⟨[(2,.cells [.str [],.nilS]),(0,.cells (runC ⟨r.m,r.cs,z2⟩)),(1,.cells [.ptr 0 0])],3⟩,[],[]⟩:=zjs _ _ rfl
  simp (disch:=first|assumption|(push_cast<;>omega)|omega) only [go_sem,zn0,c1,jV]
  refine⟨[(7,.ptr 2 0)],Sub.of [] rfl ?_ ?_ (by decide) (fun b hb hw=>?_),?_⟩
  ·simp only [go_sem]
  ·simp only [go_sem]
  ·rcases b with _|_|b
   ·exact absurd (List.mem_singleton.2 rfl) hw
   ·rfl
   ·exact absurd hb (by simp)
  ·simp only [go_sem]
theorem zvi {A B:Blk}{rest:List (Nat×Blk)}{n:Nat}(h:∀ b,b<2→rest.lookup b=none):∀ b x',(⟨[(0,A),(1,B)],2⟩:Hp).get b=some x'→b<2∧(⟨rest++[(0,A),(1,B)],n⟩:Hp).get b=some x':=by
 intro b x' e;have e':([(0,A),(1,B)]:List (Nat×Blk)).lookup b=some x':=e;have hb:b<2:=by
  rcases b with _|_|b
  ·omega
  ·omega
  ·simp [List.lookup]at e'
 refine⟨hb,?_⟩;show (rest++[(0,A),(1,B)]).lookup b=some x';rw [List.lookup_append,h b hb];exact e'
theorem stL_N(r:Run)(u:TL)(j:List Nat)(hj:j=[]∨∃ k,j=[k])(q:Str)(lu:u.1.length≤1000000000)(lq:q.length≤1000000000)(mu:u.2.length≤1000000):
 NCall prog 37 [tlV u,.int .i64 (jV j),.str q,.ptr 1 0] [.cells (runC r),.cells [.ptr 0 0]] [0] (tlV (stL r.f u j q).1) ⟨[(0,.cells (runC ⟨r.m,r.cs,(stL r.f u j q).2⟩)),(1,.cells [.ptr 0 0])],2⟩:=by
 have hrn:∀ {N:Nat→Prop} {f:Int},RnB id N (.cells (runC ⟨r.m,r.cs,f⟩)) (.cells (runC ⟨r.m,r.cs,f⟩)):=.cells (zA (za3 _))
 have hpp:∀ {N:Nat→Prop},N 0→RnB id N (.cells [.ptr 0 0]) (.cells [.ptr 0 0]):=fun h=>.cells (zbl (r:=[]) h rfl (by simp))
 have fin:∀ {rest:List (Nat×Blk)} {n:Nat} {f:Int} (fl:List Nat) (hfl:∀ b∈fl,2≤b) (h:∀ b,b<2→rest.lookup b=none),∀ b x',(⟨[(0,.cells (runC ⟨r.m,r.cs,f⟩)),(1,.cells [.ptr 0 0])],2⟩:Hp).get b=some x'→b<2∧¬b∈fl∧∃ x,(⟨rest++[(0,.cells (runC ⟨r.m,r.cs,f⟩)),(1,.cells [.ptr 0 0])],n⟩:Hp).get b=some x∧FzB (⟨rest++[(0,.cells (runC ⟨r.m,r.cs,f⟩)),(1,.cells [.ptr 0 0])],n⟩:Hp) (· ∈fl) 2 x' x:=by
  intro rest n f fl hfl h b x' e;obtain⟨hb,e2⟩:=zvi (n:=n) h b x' e;refine⟨hb,fun hk=>by have:=hfl b hk;omega,x',e2,.inl ?_⟩;have e':([(0,Blk.cells (runC ⟨r.m,r.cs,f⟩)),(1,.cells [.ptr 0 0])]:List (Nat×Blk)).lookup b=some x':=e;rcases b with _|_|b
  ·cases e';exact hrn
  ·cases e';exact hpp ⟨fun hk=>by have:=hfl 0 hk;omega,by omega⟩
  ·omega
 have hw0:∀ {rest:List (Nat×Blk)} {n:Nat} {f:Int} (h:∀ b,b<2→rest.lookup b=none),∀ b∈[0],∃ x,(⟨rest++[(0,.cells (runC ⟨r.m,r.cs,f⟩)),(1,.cells [.ptr 0 0])],n⟩:Hp).get b=some x:=by intro rest n f h b hb;obtain rfl:=List.mem_singleton.1 hb;refine⟨.cells (runC ⟨r.m,r.cs,f⟩),?_⟩;show (rest++_).lookup 0=_;rw [List.lookup_append,h 0 (by omega)];rfl
 have hel:∀ {rest:List (Nat×Blk)} {n:Nat} {f:Int} (h:∀ b,b<2→rest.lookup b=none),∀ b,b<2→(⟨[(0,.cells (runC ⟨r.m,r.cs,f⟩)),(1,.cells [.ptr 0 0])],2⟩:Hp).get b=(⟨rest++[(0,.cells (runC ⟨r.m,r.cs,f⟩)),(1,.cells [.ptr 0 0])],n⟩:Hp).get b:=by intro rest n f h b hb;show _=(rest++_).lookup b;rw [List.lookup_append,h b hb];rfl
 by_cases hz:(tm r.f u.1 q).1=[48]∨u.2++j=[]
 ·have hN:=stL_NZ r u j hj q lu lq mu hz
  have hl:∀ b,b<2→([(2,.cells [.str (tm r.f u.1 q).1,.nilS])]:List (Nat×Blk)).lookup b=none:=fun b hb=>by
   rcases b with _|_|b
   ·rfl
   ·rfl
   ·omega
  have hst:stL r.f u j q=(((tm r.f u.1 q).1,[]),(tm r.f u.1 q).2):=by
   unfold stL;split
   ·rfl
   ·rename_i h;rw [hz.resolve_left h]
  rw [hst]
  refine hN.freeze [] (fun b hb=>by cases hb) (hw0 (rest:=[_]) hl) (.inr (.pure (zba (_,[])))) (fin (rest:=[_]) [] (fun b hb=>by cases hb) hl) (hel (rest:=[_]) hl) (Nat.le_refl _)
 ·have hn:(tm r.f u.1 q).1≠[48]∧u.2++j≠[]:=⟨fun h=>hz (.inl h),fun h=>hz (.inr h)⟩
  have hN:=stL_N0 r u j hj q lu lq mu hn.1 hn.2
  have hl:∀ b,b<2→([(3,.cells [.str (tm r.f u.1 q).1,.sl 2 0 (u.2++j).length 1 none]),(2,.cells (nats .i64 (u.2++j)))]:List (Nat×Blk)).lookup b=none:=fun b hb=>by
   rcases b with _|_|b
   ·rfl
   ·rfl
   ·omega
  have hst:stL r.f u j q=(((tm r.f u.1 q).1,u.2++j),(tm r.f u.1 q).2):=by unfold stL;rw [if_neg hn.1]
  rw [hst]
  refine hN.freeze [2] (fun b hb=>?_) (hw0 (rest:=[_,_]) hl) (.inr ?_) (fin (rest:=[_,_]) [2] (fun b hb=>by rw [List.mem_singleton.1 hb];exact Nat.le_refl _) hl) (hel (rest:=[_,_]) hl) (Nat.le_refl _)
  ·rw [List.mem_singleton.1 hb]
   exact⟨Nat.le_refl _,_,rfl⟩
  ·unfold tlV
   rw [zlF hn.2]
   refine .agg rfl fun i x y hx hy=>?_
   match i with
   |0=>cases hx;cases hy;exact .pure (.str _)
   |1=>cases hx;cases hy;exact FrzF.slp (by simp) rfl rfl (by simp [nats]) (by rw [List.drop_zero,Nat.mul_one];exact(List.take_of_length_le (by simp [nats])).symm) (zY _ _)
   |i+2=>simp at hx
end Go.Proofs
