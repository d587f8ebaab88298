/- Division block by block: the digits one by one, and what is left; no program in sight. -/
import Derived.Test.YthbimeikbkjnkaaGreatDoorCAbEvP
set_option linter.all false
set_option maxHeartbeats 16000000
set_option maxRecDepth 100000
namespace Go.Pl
def mid(l:List Nat)(a k:Nat)(s:List Nat):List Nat:=l.take a++s++l.drop (a+k)
theorem zoP {l s:List Nat}{a k:Nat}(hs:s.length=k)(h:a+k≤l.length):(mid l a k s).length=l.length:=by unfold mid;simp;omega
theorem mid_ok {l s:List Nat}{a k:Nat}(ol:okL l)(os:okL s):okL (mid l a k s):=by unfold mid;exact okL_append.2 ⟨okL_append.2 ⟨zks ol _,os⟩,zkt ol _⟩
theorem mid_drop {l s:List Nat}{a k:Nat}(h:a≤l.length):(mid l a k s).drop a=s++l.drop (a+k):=by unfold mid;rw [List.append_assoc];exact List.drop_left' (by simp [h])
theorem mid_take {l s:List Nat}{a k:Nat}(h:a≤l.length):(mid l a k s).take a=l.take a:=by unfold mid;rw [List.append_assoc];exact List.take_left' (by simp [h])
structure DivInv(X:Nat)(v:List Nat)(m e:Nat)(q u:List Nat):Prop where
 ou:okL u
 lu:u.length=m
 oq:okL q
 lq:q.length+v.length=m
 low:valL (u.drop e)<valL v
 sum:valL u+valL v*(1000000000 ^ e*valL (q.drop e))=X
def seg(u:List Nat)(a n:Nat):List Nat:=(u.drop a).take (n+1)
theorem DivInv.segm {X:Nat}{v:List Nat}{m a:Nat}{q u:List Nat}(h:DivInv X v m (a+1) q u)(ov:okL v)(hv:0<v.length)(ht:0<v.getD (v.length - 1) 0)(ha:a+v.length+1≤m):
 DigOK (seg u a v.length) v∧valL (seg u a v.length)=valL (u.drop a)∧valL (u.drop (a+(v.length+1)))=0:=by
 have h1:=zaB u a
 have h2:=h.low
 have h3:=getD_lt h.ou a
 have hl:(seg u a v.length).length=v.length+1:=by unfold Go.Pl.seg;simp [h.lu];omega
 have h4:valL (u.drop a)=valL (seg u a v.length)+1000000000 ^ (v.length+1)*valL (u.drop (a+(v.length+1))):=by have:=zjP (u.drop a) (v.length+1) (by simp [h.lu];omega);rw [List.drop_drop]at this;exact this
 have h5:valL (u.drop a)<valL v*1000000000:=by omega
 have h6:=valL_lt ov
 have h7:valL (u.drop (a+(v.length+1)))=0:=by
  rw [Nat.pow_succ]at h4;generalize (1000000000:Nat) ^ v.length=p at*;generalize valL (u.drop (a+(v.length+1)))=z at*;rcases Nat.eq_zero_or_pos z with h0|h0
  ·exact h0
  ·have:p*1000000000*1≤p*1000000000*z:=Nat.mul_le_mul_left _ h0;omega
 rw [h7,Nat.mul_zero,Nat.add_zero]at h4
 exact⟨⟨zks (zkt h.ou _) _,ov,hl,hv,ht,by rw [←h4];exact h5⟩,h4.symm,h7⟩
theorem DivInv.step {X:Nat}{v:List Nat}{m a:Nat}{q u:List Nat}(h:DivInv X v m (a+1) q u)(ov:okL v)(hv:0<v.length)(ht:0<v.getD (v.length - 1) 0)(ha:a+v.length+1≤m):
 DivInv X v m a (q.set a (valL (seg u a v.length) / valL v)) (mid u a (v.length+1) (digs (v.length+1) (valL (seg u a v.length) % valL v))):=by
 obtain⟨hd,hs,hz⟩:=h.segm ov hv ht ha
 have hvp:=hd.vpos
 have hmod:valL (seg u a v.length) % valL v<valL v:=Nat.mod_lt _ hvp
 have hlt:valL (seg u a v.length) % valL v<1000000000 ^ (v.length+1):=by have:=valL_lt ov;rw [Nat.pow_succ];generalize (1000000000:Nat) ^ v.length=p at*;omega
 have hval:=zk7 (v.length+1) _ hlt
 have hua:a≤u.length:=by rw [h.lu];omega
 have hdrop:valL ((mid u a (v.length+1) (digs (v.length+1) (valL (seg u a v.length) % valL v))).drop a)=valL (seg u a v.length) % valL v:=by rw [mid_drop hua,zaF,hval,hz,Nat.mul_zero,Nat.add_zero]
 have hlen:=zoP (l:=u) (a:=a) (zdz (v.length+1) (valL (seg u a v.length) % valL v)) (by rw [h.lu];omega)
 have hqa:a<q.length:=by have:=h.lq;omega
 refine⟨mid_ok h.ou (zk8 _ _),by rw [hlen,h.lu],zeD h.oq hd.qlt,by rw [List.length_set];exact h.lq,by rw [hdrop];exact hmod,?_⟩
 rw [zjP _ a (by rw [hlen];exact hua),hdrop,mid_take hua,zaB (q.set a _) a,List.drop_set_of_lt (by omega)]
 have e1:(q.set a (valL (seg u a v.length) / valL v)).getD a 0=valL (seg u a v.length) / valL v:=by rw [List.getD_eq_getElem?_getD,List.getElem?_set_self hqa];rfl
 rw [e1]
 have h8:=h.sum
 rw [zjP u a hua, ←hs,Nat.pow_succ]at h8
 have h9:=Nat.div_add_mod (valL (seg u a v.length)) (valL v)
 rw [←h8]
 generalize valL (seg u a v.length) / valL v=d at*
 generalize valL (seg u a v.length) % valL v=r at*
 generalize valL (seg u a v.length)=S at*
 generalize (1000000000:Nat) ^ a=p at*
 generalize valL (q.drop (a+1))=Q at*
 generalize valL v=V at*
 rw [←h9,Nat.mul_add p,Nat.mul_add p,Nat.mul_add V]
 have i1:V*(p*d)=p*(V*d):=Nat.mul_left_comm ..
 have i2:V*(p*(1000000000*Q))=V*(p*1000000000*Q):=by rw [Nat.mul_assoc p]
 rw [i1,i2]
 omega
theorem DivInv.done {X:Nat}{v:List Nat}{m:Nat}{q u:List Nat}(h:DivInv X v m 0 q u):zat q=limbs (X / valL v)∧zat u=limbs (X % valL v):=by have h1:=h.low;have h2:=h.sum;simp only [List.drop_zero,Nat.pow_zero,Nat.one_mul]at h1 h2;have hd:=(Nat.div_mod_unique (show 0<valL v by omega)).2 ⟨h2,h1⟩;rw [zaX h.oq,zaX h.ou,hd.1,hd.2];exact⟨rfl,rfl⟩
theorem DivInv.start {X Y k n m:Nat}(hx:0<(limbs X).length)(hm:m=(limbs X).length+1)(hn:n=(limbs Y).length)(hY:Y≠0)(hXY:Y≤X)(hk:k<1000000000)(hk0:0<k)
 (hv:(limbs (Y*k)).length=n) (hnm:n<m):DivInv (X*k) (limbs (Y*k)) m (m - n) (List.replicate (m - n) 0) (digs m (X*k)):=by
 have hX1:X<1000000000 ^ (limbs X).length:=by have:=valL_lt (zH X);rwa [zD]at this
 have hY1:1000000000 ^ (n - 1)≤Y:=by have h1:=zdg (zH Y) (n - 1) (by omega);have h2:=zco hY;have z:valL ((limbs Y).drop (n - 1+1))=0:=zb1 (by omega);rw [zD,zaB,z,Nat.mul_zero,Nat.add_zero]at h1;rw [←hn]at h2;have h3:=h1.1;generalize (1000000000:Nat) ^ (n - 1)=p at*;have:1*p≤(limbs Y).getD (n - 1) 0*p:=Nat.mul_le_mul_right _ (by omega);omega
 have hn0:0<n:=by
  rcases Nat.eq_zero_or_pos n with h0|h0
  ·exfalso;rw [h0]at hn;exact hY (limbs_nil.1 (List.eq_nil_of_length_eq_zero hn.symm))
  ·exact h0
 have hXk:X*k<1000000000 ^ m:=by rw [hm,Nat.pow_succ];exact Nat.mul_lt_mul_of_lt_of_le hX1 (by omega) (by omega)
 have hval:=zk7 m _ hXk
 have hlow:valL ((digs m (X*k)).drop (m - n))<Y*k:=by
  have h1:=(zdg (zk8 m (X*k)) (m - n) (by rw [zdz];omega)).1;rw [hval]at h1;have h2:X*k<Y*k*1000000000 ^ (m - n):=by
   have h3:X<Y*1000000000 ^ (m - n):=by have:1000000000 ^ (n - 1)*1000000000 ^ (m - n)≤Y*1000000000 ^ (m - n):=Nat.mul_le_mul_right _ hY1;rw [←Nat.pow_add,show n - 1+(m - n)=(limbs X).length by omega]at this;omega
   have h4:X*k<Y*1000000000 ^ (m - n)*k:=Nat.mul_lt_mul_of_pos_right h3 hk0;rw [Nat.mul_right_comm]at h4;exact h4
  exact Nat.lt_of_mul_lt_mul_right (Nat.lt_of_le_of_lt h1 h2)
 have hz:∀ j,valL (List.replicate j 0)=0:=by
  intro j;induction j with
  |zero=>rfl
  |succ j ih=>rw [List.replicate_succ,valL,ih]
 refine⟨zk8 _ _,zdz _ _,fun d hd=>by have:=List.eq_of_mem_replicate hd;omega,by rw [List.length_replicate,hv];omega,by rw [zD];exact hlow,?_⟩
 have z:valL ((List.replicate (m - n) 0).drop (m - n))=0:=zb1 (by simp)
 rw [hval,z,Nat.mul_zero,Nat.mul_zero,Nat.add_zero]
def zl2(k:Nat)(r0:List Nat)(e:Nat)(r:List Nat)(c:Nat):Prop:=
 r.length=r0.length∧okL r∧r.take e=r0.take e∧valL (r.drop e)*k+c=valL (r0.drop e)∧c<k
theorem zv6 {k:Nat}{r0:List Nat}(hk:0<k)(o:okL r0):zl2 k r0 r0.length r0 0:=
 ⟨rfl,o,rfl,by rw [zb1 (Nat.le_refl _),Nat.zero_mul],hk⟩
theorem rem_step {k:Nat}{r0 r:List Nat}{e c:Nat}(hk:k<1000000000)(he:e<r0.length)(h:zl2 k r0 (e+1) r c):
 zl2 k r0 e (r.set e ((c*1000000000+r.getD e 0) / k)) ((c*1000000000+r.getD e 0) % k)∧c*1000000000+r.getD e 0<1000000000000000000:=by
 obtain⟨h1,h2,h3,h4,h5⟩:=h
 have hr:=getD_lt h2 e
 have hkp:0<k:=by omega
 have hre:r.getD e 0=r0.getD e 0:=by rw [←getD_take r (e+1) e 0 (by omega),h3,getD_take r0 (e+1) e 0 (by omega)]
 have hc:c*1000000000+r.getD e 0<k*1000000000:=by
  have:c*1000000000+1000000000≤k*1000000000:=by omega
  omega
 refine⟨⟨by simpa using h1,zeD h2 ((Nat.div_lt_iff_lt_mul hkp).2 (by omega)),?_,?_,Nat.mod_lt _ hkp⟩,by omega⟩
 ·rw [List.take_set_of_le (Nat.le_refl _)]
  have:=congrArg (List.take e) h3
  rwa [List.take_take,List.take_take,Nat.min_eq_left (by omega)]at this
 ·rw [zaB (r.set e _) e,List.drop_set_of_lt (by omega),zaB r0 e, ←h4, ←hre]
  have e1:(r.set e ((c*1000000000+r.getD e 0) / k)).getD e 0=(c*1000000000+r.getD e 0) / k:=by rw [List.getD_eq_getElem?_getD,List.getElem?_set_self (by omega)];rfl
  rw [e1]
  have h9:=Nat.div_add_mod (c*1000000000+r.getD e 0) k
  generalize (c*1000000000+r.getD e 0) / k=d at*
  generalize (c*1000000000+r.getD e 0) % k=s at*
  generalize valL (r.drop (e+1))=R at*
  rw [Nat.add_mul,Nat.mul_comm d k,Nat.mul_assoc 1000000000 R k]
  generalize R*k=Rk at*
  generalize k*d=kd at*
  omega
theorem rem_done {k z:Nat}{r:List Nat}{c:Nat}(hk:0<k)(h:zl2 k (limbs (z*k)) 0 r c):zat r=limbs z:=by
 obtain⟨h1,h2,h3,h4,h5⟩:=h;simp only [List.drop_zero,zD]at h4;rw [zaX h2];congr 1;have h6:(valL r*k+c) / k=z:=by rw [h4];exact Nat.mul_div_cancel _ hk
 rw [Nat.mul_comm,Nat.mul_add_div hk,Nat.div_eq_of_lt h5,Nat.add_zero]at h6;exact h6
theorem norm_len {Y k n:Nat}(hn:n=(limbs Y).length)(hY:Y≠0)(hk:k=1000000000 / ((limbs Y).getD (n - 1) 0+1)):0<k∧k<1000000000∧(limbs (Y*k)).length=n:=by
 have hl:=zco hY;rw [←hn]at hl;have hlt:=getD_lt (zH Y) (n - 1);have hn0:0<n:=by
  rcases Nat.eq_zero_or_pos n with h0|h0
  ·exfalso;rw [h0]at hn;exact hY (limbs_nil.1 (List.eq_nil_of_length_eq_zero hn.symm))
  ·exact h0
 have hb:=zdg (zH Y) (n - 1) (by omega);have z:valL ((limbs Y).drop (n - 1+1))=0:=zb1 (by omega);rw [zD,zaB,z,Nat.mul_zero,Nat.add_zero]at hb;generalize (limbs Y).getD (n - 1) 0=t at*;have k0:0<k:=by rw [hk];exact Nat.div_pos (by omega) (by omega)
 have k1:k*(t+1)≤1000000000:=by rw [hk];exact Nat.div_mul_le_self _ _
 have k2:k<1000000000:=by have:k*2≤k*(t+1):=Nat.mul_le_mul_left _ (by omega);omega
 refine⟨k0,k2,Nat.le_antisymm ?_ ?_⟩
 ·apply zaJ;have h1:Y*k<(t+1)*1000000000 ^ (n - 1)*k:=Nat.mul_lt_mul_of_pos_right hb.2 k0;have h2:(t+1)*1000000000 ^ (n - 1)*k=k*(t+1)*1000000000 ^ (n - 1):=by rw [Nat.mul_comm,Nat.mul_assoc]
  have h3:k*(t+1)*1000000000 ^ (n - 1)≤1000000000*1000000000 ^ (n - 1):=Nat.mul_le_mul_right _ k1;have h4:(1000000000:Nat) ^ n=1000000000*1000000000 ^ (n - 1):=by obtain⟨s,rfl⟩:∃ s,n=s+1:=⟨n - 1,by omega⟩;rw [Nat.pow_succ,Nat.add_sub_cancel,Nat.mul_comm]
  rw [h4];omega
 ·refine Nat.le_of_not_lt fun hlt2=>?_;have h1:=valL_lt (zH (Y*k));rw [zD]at h1;have h2:1000000000 ^ (limbs (Y*k)).length≤1000000000 ^ (n - 1):=Nat.pow_le_pow_right (by omega) (by omega);have h3:Y≤Y*k:=Nat.le_mul_of_pos_right _ k0;have h4:1*1000000000 ^ (n - 1)≤t*1000000000 ^ (n - 1):=Nat.mul_le_mul_right _ (by omega);generalize (1000000000:Nat) ^ (n - 1)=p at*;omega
end Go.Pl

namespace Go.Pl
theorem zqJ {l s:List Nat}{o n i:Nat}(hs:s.length=n)(h:o+n≤l.length)(hi:i<n):(mid l o n s).getD (o+i) 0=s.getD i 0:=by
 unfold mid;rw [List.getD_eq_getElem?_getD,List.getElem?_append_left (by simp;omega),List.getElem?_append_right (by simp;omega),List.getD_eq_getElem?_getD];have:o+i - (List.take o l).length=i:=by simp;omega
 rw [this]
theorem zxa {l s:List Nat}{o n i d:Nat}(hs:s.length=n)(h:o+n≤l.length)(hi:i<n):(mid l o n s).set (o+i) d=mid l o n (s.set i d):=by
 unfold mid;rw [List.set_append_left _ _ (by simp;omega),List.set_append_right _ _ (by simp;omega)];have:o+i - (List.take o l).length=i:=by simp;omega
 rw [this]
theorem mid_seg {l:List Nat}{o n:Nat}(h:o+n≤l.length):mid l o n ((l.drop o).take n)=l:=by
 unfold mid;rw [List.append_assoc];have:List.drop (o+n) l=List.drop n (List.drop o l):=by rw [List.drop_drop]
 rw [this,List.take_append_drop,List.take_append_drop]
end Go.Pl

namespace Go.Proofs
open Tryz Go.Ab Go.Pl
theorem trimN_ok(l:List Nat)(k:Nat)(hk:k≤l.length)(hl:l.length≤1000000):NCall prog 153 [.sl 0 0 k 1 none] [.cells (nats .u64 l)] [] (.sl 0 0 (zat (l.take k)).length 1 none) ⟨[(0,.cells (nats .u64 l))],1⟩:=by
 refine NCall.walk (rs:=[.tmp 2]) [0,2,14] [] 1 mixed (zh) (zg) zy5 func153 rfl ntmps153 rfl (by kernel_rfl) (by simp) (by simp) (by simp) ?_;simp only [go_sem];refine AXs.loop mixed (zh) (zg) (fun n:Nat=>[(0,.sl 0 0 n 1 none)]) (fun _=>⟨[(0,.cells (nats .u64 l))],1⟩) (fun n=>n≤k∧∀ j,n≤j→(l.take k).getD j 0=0) (fun n=>n) k (by kernel_rfl)
  ⟨Nat.le_refl _,fun j hj=>zaZ _ _ _ (by simp;omega)⟩ (Sub.of [] rfl ?_ ?_ (by decide) (fun b hb _=>?_)) ?_
 ·simp only [go_sem]
 ·simp only [go_sem]
 ·obtain rfl:b=0:=Nat.lt_one_iff.1 hb;rfl
 rintro n ⟨hn,hz⟩;rcases Nat.eq_zero_or_pos n with rfl|hp
 ·simp only [go_sem];rw [zlp];simp only [go_sem,zwy];refine AXa.go mixed (zh) (zg) (by kernel_rfl) ?_;simp only [go_sem];have h2:=zcY (l:=l.take k) (n:=0) (by simp) hz (.inl rfl);refine⟨[(2,.sl 0 0 0 1 none)],Sub.of [] rfl ?_ ?_ (by decide) (fun b hb _=>?_),by rw [h2];rfl⟩
  ·simp only [go_sem]
  ·simp only [go_sem]
  ·obtain rfl:b=0:=Nat.lt_one_iff.1 hb;rfl
 ·have hd:decide (0<(n:Int))=true:=by simp;omega
  have hg:(l.take k).getD (n - 1) 0=l.getD (n - 1) 0:=getD_take _ _ _ _ (by omega);simp (disch:=first|assumption|(push_cast<;>omega)|omega) only [go_sem,hd]
  (repeat refine sdC ?_);refine AXc.introP (fun h1=>?_) (fun h1=>?_)
  ·simp (disch:=first|assumption|(push_cast<;>omega)|omega) only [go_sem]
   (repeat refine sdC ?_);refine zk (n - 1) ⟨by omega,fun j hj=>?_⟩ (by omega) (Sub.of [] rfl ?_ ?_ (by decide) (fun b hb _=>?_))
   ·by_cases hjn:j=n - 1
    ·subst hjn;omega
    ·exact hz j (by omega)
   ·simp only [go_sem]
   ·simp only [go_sem]
   ·obtain rfl:b=0:=Nat.lt_one_iff.1 hb;rfl
  ·simp only [go_sem];refine AXa.go mixed (zh) (zg) (by kernel_rfl) ?_;simp only [go_sem];have h2:=zcY (l:=l.take k) (n:=n) (by simp;omega) hz (.inr (by omega));have h3:(zat (l.take k)).length=n:=by rw [h2];simp;omega
   refine⟨[(2,.sl 0 0 n 1 none)],Sub.of [] rfl ?_ ?_ (by decide) (fun b hb _=>?_),by rw [h3];rfl⟩
   ·simp only [go_sem]
   ·simp only [go_sem]
   ·obtain rfl:b=0:=Nat.lt_one_iff.1 hb;rfl
def zpX(args:List V)(H:Hp)(r:AR):Prop:=
 ∃(b:Nat) (l:List Nat) (k:Nat) (kc:Option Nat),args=[.sl b 0 k 1 kc]∧H.get b=some (.cells (nats .u64 l))∧k≤l.length∧l.length≤1000000∧(∀ b x,H.get b=some x→b<H.next)∧
  r=⟨True,.sl b 0 (zat (l.take k)).length 1 none,H,[b],[]⟩
theorem zqd:∀ args H r,zpX args H r→HCall prog 153 args H r:=by
 rintro args H r ⟨b,l,k,kc,rfl,hb,hk,hl,hkeys,rfl⟩;refine HCall.view1 (trimN_ok l k hk hl) (zY _ _) b _ H ⟨rfl,fun i x y hx hy=>?_⟩ hb hkeys;match i with
 |0=>cases hx;cases hy;exact .sl (π:=fun i=>[b].getD i 0) (b:=0) (Nat.lt_one_iff.2 rfl) (.inl rfl)
 |i+1=>simp at hx
theorem zr3 {args:List V}{H:Hp}{r r':AR}(h:zpX args H r)(h':zpX args H r'):r'=r:=by obtain⟨b,l,k,kc,rfl,hb,_,_,_,rfl⟩:=h;obtain⟨b',l',k',kc',he,hb',_,_,_,rfl⟩:=h';simp only [List.cons.injEq,V.sl.injEq,and_true,true_and]at he;obtain⟨rfl,rfl,rfl⟩:=he;rw [hb]at hb';simp only [Option.some.injEq,Blk.cells.injEq]at hb';rw [zan hb']
noncomputable def ΔT:FuncId→List V→Hp→Option AR:=zbJ 153 (conD zpX) noΔ
theorem zu0:zaT prog ΔT:=zV (zaq zqd) zg
theorem zgr(b k:Nat)(kc:Option Nat)(l:List Nat)(bs:List (Nat×Blk))(nx:Nat)(hb:zar bs b=some (.cells (nats .u64 l)))(hk:k≤l.length)(hl:l.length≤1000000)(hkeys:((keysB bs).all fun b=>decide (b<nx))=true):
 conD zpX [.sl b 0 k 1 kc] ⟨bs,nx⟩=some ⟨True,.sl b 0 (zat (l.take k)).length 1 none,⟨bs,nx⟩,[b],[]⟩:=by
 have hr:zpX [.sl b 0 k 1 kc] ⟨bs,nx⟩ ⟨True,.sl b 0 (zat (l.take k)).length 1 none,⟨bs,nx⟩,[b],[]⟩:=⟨b,l,k,kc,rfl,(zcM bs b).trans hb,hk,hl,zbp hkeys,rfl⟩
 exact zaD (h:=hr) fun _ h'=>zr3 hr h'
theorem zyo(x k:Nat)(hk:k<1000000000):(eachR (zI k) (limbs x) [] ((limbs x).length+1)).1=digs ((limbs x).length+1) (x*k):=by
 have ox:=zH x;have h:=zhe hk ox;rw [zD]at h;have h1:zat (eachR (zI k) (limbs x) [] ((limbs x).length+1)).1=limbs (x*k):=by rw [←h];unfold zdv;simp
 have h2:okL (eachR (zI k) (limbs x) [] ((limbs x).length+1)).1:=okL_each (fun a b c=>ze0 k a b c) _;have h3:=eachR_len (zI k) (limbs x) [] ((limbs x).length+1);rw [zaX h2]at h1;have h4:=zb9 h1;have:=zfW h2;rw [h3,h4]at this;exact this
theorem eachN_ok(x k:Nat)(hx:(limbs x).length≤1000)(hk:k<1000000000):NCall prog 215 [.fs (nats .u64 (limbs x)) (limbs x).length,.nilS,.fn 228 [.fp [.int .u64 k]]] [] []
 (.sl 0 0 (limbs (x*k)).length 1 none) ⟨[(0,.cells (nats .u64 (digs ((limbs x).length+1) (x*k))))],1⟩:=by
 have ox:=zH x
 rw [←zyo x k hk]
 have hv:limbs (x*k)=zat (eachR (zI k) (limbs x) [] ((limbs x).length+1)).1:=by have h:=zhe hk ox;rw [zD]at h;rw [←h];unfold zdv;simp
 rw [hv]
 clear hv
 generalize limbs x=l at*
 have hC:∀ i,(eachR (zI k) l [] i).2<1000000000:=fun i=>zhg hk l ox [] i
 have hpu:∀ x∈[V.fp [V.int .u64 k]],Pure x:=by simp [zhr,zb4]
 have hG:=zf (zpy k) (zh (P:=prog))
 refine NCall.walk (rs:=[.tmp 6]) [0,1,2,6,7,8,9,10,11,12,18,19,20,25,33] [] 0 mixed (hG) (zu0) zy3 func215 rfl ntmps215 rfl (by kernel_rfl) (by simp) (by simp) (by simp) ?_
 have hmx:maxI (l.length:Int) 0=(l.length:Int):=by unfold maxI;split<;>omega
 simp (disch:=first|assumption|(push_cast<;>omega)|omega) only [go_sem,hmx]
 refine AXs.loop mixed (hG) (zu0) (fun i:Nat=>[(0,.fs (nats .u64 l) l.length),(1,.nilS),(2,.fn 228 [.fp [.int .u64 k]]),(7,bkV (eachR (zI k) l [] i).1),(8,.int .u64 (eachR (zI k) l [] i).2),(18,.int .i64 (l.length+1:Int)),(19,.int .i64 i)])
  (fun i=>⟨bkBs (eachR (zI k) l [] i).1,bkN (eachR (zI k) l [] i).1⟩) (fun i=>i≤l.length+1) (fun i=>l.length+1 - i) 0 (by kernel_rfl) (Nat.zero_le _) (Sub.of0 [] rfl rfl ?_ ?_) ?_
 ·simp only [go_sem,eachR,bkV]
  simp [zb4]
 ·simp only [go_sem,eachR,bkBs]
 intro i hi
 simp (disch:=first|assumption|(push_cast<;>omega)|omega) only [go_sem]
 refine AXc.introP (fun h1=>?_) (fun h1=>?_)
 ·have hlt:=getD_lt ox i
  have hFi:zrk k [.int .u64 (l.getD i 0),.int .u64 0,.int .u64 (eachR (zI k) l [] i).2,.fp [.int .u64 k]]=some (.ret (.tup [.int .u64 (zI k (l.getD i 0) 0 (eachR (zI k) l [] i).2).1,.int .u64 (zI k (l.getD i 0) 0 (eachR (zI k) l [] i).2).2])):=
   zo (pat:=fun p:Nat×Nat×Nat=>[V.int .u64 p.1,.int .u64 p.2.1,.int .u64 p.2.2,.fp [.int .u64 k]]) (fun x y h=>zg0 h) (l.getD i 0,0,(eachR (zI k) l [] i).2) ⟨hlt,hk,hC i⟩
  have hsucc:eachR (zI k) l [] (i+1)=((eachR (zI k) l [] i).1++[(zI k (l.getD i 0) 0 (eachR (zI k) l [] i).2).1],(zI k (l.getD i 0) 0 (eachR (zI k) l [] i).2).2):=rfl
  have hlen:=eachR_len (zI k) l [] i
  generalize zI k (l.getD i 0) 0 (eachR (zI k) l [] i).2=r at hFi hsucc
  generalize eachR (zI k) l [] i=q at*
  obtain⟨q1,q2⟩:=q
  dsimp only at hFi hsucc hlen ⊢
  have zx:¬(i:Int)<l.length→l.getD i 0=0:=fun h=>zaZ _ _ _ (by omega)
  have hz0:¬(i:Int)<0:=by omega
  have hcap:nzs [V.fp [.int .u64 k]]=[V.fp [.int .u64 k]]:=rfl
  by_cases c1:(i:Int)<l.length
  all_goals
   try rw [zx c1]at hFi
   try simp only [Int.natCast_zero]at hFi
   rcases q1 with _|⟨d,t⟩
   ·simp (disch:=first|assumption|(push_cast<;>omega)|omega) only [go_sem,bkV,bkBs,bkN,c1,hz0,decide_false,hcap,hFi]
    repeat refine And.intro (by omega) ?_
    refine zk (i+1) (by omega) (by omega) (Sub.of0 [(0,1)] rfl (by rw [hsucc];rfl) ?_ ?_)
    ·rw [hsucc]
     simp only [go_sem,bkV,bkBs,bkN]
     simp [zb4]
    ·rw [hsucc]
     simp only [go_sem,bkV,bkBs,bkN]
     simp [nats]
   ·have hll:t.length+1=i:=hlen
    simp (disch:=first|assumption|(push_cast<;>omega)|omega) only [go_sem,bkV,bkBs,bkN,c1,hz0,decide_false,hcap,hFi]
    repeat refine And.intro (by omega) ?_
    refine zk (i+1) (by omega) (by omega) (Sub.of0 [(0,2)] rfl (by rw [hsucc];rfl) ?_ ?_)
    ·rw [hsucc]
     simp only [go_sem,bkV,bkBs,bkN]
     simp [zb4]
    ·rw [hsucc]
     simp only [go_sem,bkV,bkBs,bkN]
     simp [nats]
 ·have hie:i=l.length+1:=by omega
  subst hie
  have hlen:=eachR_len (zI k) l [] (l.length+1)
  generalize eachR (zI k) l [] (l.length+1)=q at*
  obtain⟨q1,q2⟩:=q
  dsimp only at hlen ⊢
  rcases q1 with _|⟨d,t⟩
  ·simp at hlen
  ·have hll:t.length+1=l.length+1:=hlen
   have hT:ΔT 153 [.sl 0 0 (t.length+1) 1 none] ⟨[(0,.cells (nats .u64 (d::t)))],1⟩=some ⟨True,.sl 0 0 (zat (d::t)).length 1 none,⟨[(0,.cells (nats .u64 (d::t)))],1⟩,[0],[]⟩:=by have:=zgr 0 (t.length+1) none (d::t) [(0,.cells (nats .u64 (d::t)))] 1 rfl (by simp) (by simp;omega) rfl;rwa [List.take_of_length_le (by simp)]at this
   simp only [go_sem,bkV,bkBs,bkN]
   refine AXa.go mixed (hG) (zu0) (by kernel_rfl) ?_
   simp only [go_sem,hT]
   exact⟨[(6,.sl 0 0 (zat (d::t)).length 1 none)],Sub.of0 [] rfl rfl (by simp only [go_sem]) (by simp only [go_sem]),by simp only [go_sem]⟩
def zuX(args:List V)(H:Hp)(r:AR):Prop:=
 ∃ x k:Nat,args=[.fs (nats .u64 (limbs x)) (limbs x).length,.nilS,.fn 228 [.fp [.int .u64 k]]]∧(limbs x).length≤1000∧k<1000000000∧(∀ b x,H.get b=some x→b<H.next)∧
  r=⟨True,.sl H.next 0 (limbs (x*k)).length 1 none,⟨(H.next,.cells (nats .u64 (digs ((limbs x).length+1) (x*k))))::H.bs,H.next+1⟩,[],[]⟩
theorem eachD_ok:∀ args H r,zuX args H r→HCall prog 215 args H r:=by rintro args H r ⟨x,k,rfl,h1,h2,hk,rfl⟩;refine HCall.fresh (F:=[]) (eachN_ok x k h1 h2) (zY _ _) [] _ H rfl (by simp) ?_ (by simp) (by simp) hk;exact zA (by simp [zfI,zei,zdR,zki,zhr,zb4])
theorem ztX {args:List V}{H:Hp}{r r':AR}(h:zuX args H r)(h':zuX args H r'):r'=r:=by
 obtain⟨x,k,rfl,_,_,_,rfl⟩:=h;obtain⟨x',k',he,_,_,_,rfl⟩:=h';simp at he;obtain⟨⟨e1,_⟩,e2⟩:=he;have e3:=zb9 (zan e1);have e4:k=k':=by omega
 rw [e3,e4]
noncomputable def ΔE:FuncId→List V→Hp→Option AR:=zbJ 215 (conD zuX) noΔ
theorem ΔE_ok:zaT prog ΔE:=zV (zaq eachD_ok) zg
theorem eachD_eq(x k:Nat)(h1:(limbs x).length≤1000)(h2:k<1000000000)(bs:List (Nat×Blk))(nx:Nat)(hkeys:((keysB bs).all fun b=>decide (b<nx))=true):
 conD zuX [.fs (nats .u64 (limbs x)) (limbs x).length,.nilS,.fn 228 [.fp [.int .u64 k]]] ⟨bs,nx⟩=some ⟨True,.sl nx 0 (limbs (x*k)).length 1 none,⟨(nx,.cells (nats .u64 (digs ((limbs x).length+1) (x*k))))::bs,nx+1⟩,[],[]⟩:=by
 have hr:zuX [.fs (nats .u64 (limbs x)) (limbs x).length,.nilS,.fn 228 [.fp [.int .u64 k]]] ⟨bs,nx⟩ ⟨True,.sl nx 0 (limbs (x*k)).length 1 none,⟨(nx,.cells (nats .u64 (digs ((limbs x).length+1) (x*k))))::bs,nx+1⟩,[],[]⟩:=⟨x,k,rfl,h1,h2,zbp hkeys,rfl⟩
 exact zaD hr fun _ h'=>ztX hr h'
theorem zsj(x k:Nat)(hx:(limbs x).length≤1000)(hk:k<1000000000):NCall prog 207 [.fs (nats .u64 (limbs x)) (limbs x).length,.int .u64 k] [] []
 (.sl 0 0 (limbs (x*k)).length 1 none) ⟨[(0,.cells (nats .u64 (digs ((limbs x).length+1) (x*k))))],1⟩:=by
 refine NCall.walk (rs:=[.tmp 4]) [0,1,3,4] [185] 0 mixed (zh) (ΔE_ok) call207 func207 rfl ntmps207 rfl (by kernel_rfl) (by simp) (by simp) (by simp) ?_
 have hE:ΔE 215 [.fs (nats .u64 (limbs x)) (limbs x).length,.nilS,.fn 228 [.fp [.int .u64 k]]] ⟨[],0⟩=some ⟨True,.sl 0 0 (limbs (x*k)).length 1 none,⟨[(0,.cells (nats .u64 (digs ((limbs x).length+1) (x*k))))],1⟩,[],[]⟩:=eachD_eq x k hx hk [] 0 rfl
 simp only [go_sem,hE]
 exact⟨[(4,.sl 0 0 (limbs (x*k)).length 1 none)],Sub.of0 [] rfl rfl (by simp only [go_sem]) (by simp only [go_sem]),by simp only [go_sem]⟩
def zf1(args:List V)(H:Hp)(r:AR):Prop:=
 ∃ x k:Nat,args=[.fs (nats .u64 (limbs x)) (limbs x).length,.int .u64 k]∧(limbs x).length≤1000∧k<1000000000∧(∀ b x,H.get b=some x→b<H.next)∧
  r=⟨True,.sl H.next 0 (limbs (x*k)).length 1 none,⟨(H.next,.cells (nats .u64 (digs ((limbs x).length+1) (x*k))))::H.bs,H.next+1⟩,[],[]⟩
theorem zsk:∀ args H r,zf1 args H r→HCall prog 207 args H r:=by rintro args H r ⟨x,k,rfl,h1,h2,hk,rfl⟩;refine HCall.fresh (F:=[]) (zsj x k h1 h2) (zY _ _) [] _ H rfl (by simp) ?_ (by simp) (by simp) hk;exact zA (by simp [zfI,zei,zb4])
theorem zlU {args:List V}{H:Hp}{r r':AR}(h:zf1 args H r)(h':zf1 args H r'):r'=r:=by
 obtain⟨x,k,rfl,_,_,_,rfl⟩:=h;obtain⟨x',k',he,_,_,_,rfl⟩:=h';simp at he;obtain⟨⟨e1,_⟩,e2⟩:=he;have e3:=zb9 (zan e1);have e4:k=k':=by omega
 rw [e3,e4]
theorem ziY(x k:Nat)(h1:(limbs x).length≤1000)(h2:k<1000000000)(bs:List (Nat×Blk))(nx:Nat)(hkeys:((keysB bs).all fun b=>decide (b<nx))=true):
 conD zf1 [.fs (nats .u64 (limbs x)) (limbs x).length,.int .u64 k] ⟨bs,nx⟩=some ⟨True,.sl nx 0 (limbs (x*k)).length 1 none,⟨(nx,.cells (nats .u64 (digs ((limbs x).length+1) (x*k))))::bs,nx+1⟩,[],[]⟩:=by
 have hr:zf1 [.fs (nats .u64 (limbs x)) (limbs x).length,.int .u64 k] ⟨bs,nx⟩ ⟨True,.sl nx 0 (limbs (x*k)).length 1 none,⟨(nx,.cells (nats .u64 (digs ((limbs x).length+1) (x*k))))::bs,nx+1⟩,[],[]⟩:=⟨x,k,rfl,h1,h2,zbp hkeys,rfl⟩
 exact zaD hr fun _ h'=>zlU hr h'
end Go.Proofs
