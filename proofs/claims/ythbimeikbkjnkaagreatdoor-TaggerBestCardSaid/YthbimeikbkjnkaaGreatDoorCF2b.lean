/- The reference's natural numbers: text, comparison, single digits. -/
import Derived.Test.YthbimeikbkjnkaaGreatDoorCQNat4
set_option linter.all false
set_option maxHeartbeats 16000000
set_option maxRecDepth 100000
namespace Go.Proofs
open Tryz Go.Ab Go.Pl
theorem zeK:∀ {l:List Nat},Ten.okL l→bytesOf (nats .u8 (l.map (48+·)))=some (l.map dg)
 |[],_=>rfl
 |d::l,h=>by
  have ih:=zeK (l:=l) fun x hx=>h x (List.mem_cons_of_mem _ hx);simp only [List.map_cons,nats]at ih ⊢;unfold bytesOf;rw [ih];have e:(((48+d:Nat):Int)).toNat=48+d:=by omega
  rw [e];rfl
def accT(l:List Nat)(n m:Nat):List Nat:=((l.take n).drop m).reverse.map (48+·)
theorem zAG(l:List Nat)(n:Nat):accT l n n=[]:=by simp [accT,List.drop_take]
theorem accT_len(l:List Nat)(n m:Nat)(h:n≤l.length):(accT l n m).length=n - m:=by simp [accT];omega
theorem zAF(l:List Nat)(n m:Nat)(h:m<n)(hn:n≤l.length):accT l n m=accT l n (m+1)++[48+l.getD m 0]:=by
 have:(l.take n).drop m=l.getD m 0::(l.take n).drop (m+1):=by rw [List.drop_eq_getElem_cons (by simp;omega)];rw [List.getElem_take,List.getD_eq_getElem?_getD,List.getElem?_eq_getElem (by omega)];rfl
 rw [accT,this,List.reverse_cons,List.map_append];rfl
theorem zcL {l:List Nat}(ok:Ten.okL l)(i:Nat):l.getD i 0≤9:=by
 by_cases h:i<l.length
 ·rw [List.getD_eq_getElem?_getD,List.getElem?_eq_getElem h];have:=ok _ (List.getElem_mem h);exact Nat.le_of_lt_succ this
 ·rw [zaZ _ _ _ (by omega)];omega
theorem rnb_tyF {π:Nat→Nat}{N:Nat→Prop}(t:TypeId)(cs cs':List V):RnB π N (.ty t cs) (.ty t cs')↔LRel (Rn π N) cs cs':=⟨fun h=>by cases h;assumption,.ty⟩
attribute [go_sem] rnb_tyF
def acBt(t:TypeId)(l:List Nat):List (Nat×Blk):=match l with|[]=>[]|_=>[(0,.ty t (nats .u8 l))]
theorem rtext_ok(l:List Nat)(hl:l.length≤1000000)(ok:Ten.okL l):PCall prog 133 [.fs (nats .i64 l) l.length] (.ret (.str (dec (Ten.valL l)))):=by
 refine PCall.wD (rs:=[.tmp 2]) [0,2,3,4,5,17,23,37] [] mixed (zh) (zg) call133 func133 rfl ntmps133 rfl ?_;simp only [go_sem];refine AXs.loop mixed (zh) (zg) (fun n:Nat=>[(0,.fs (nats .i64 l) l.length),(3,.int .i64 n)]) (fun _=>⟨[],0⟩) (fun n=>n≤l.length∧(0<l.length→0<n)∧∀ j,n≤j→l.getD j 0=0) (fun n=>n) l.length (by kernel_rfl) ⟨Nat.le_refl _,fun h=>h,fun j hj=>zaZ _ _ _ hj⟩ (Sub.of0 [] rfl rfl ?_ ?_) ?_
 ·simp only [go_sem]
 ·simp only [go_sem]
 rintro n ⟨h1,h1',h2⟩;have fin:(n≤1∨l.getD (n - 1) 0≠0)→0<n→(l.take n).reverse.map dg=dec (Ten.valL l):=fun c d=>ten_text ok h1 h2 c d;rcases Nat.eq_zero_or_pos n with rfl|h0
 ·obtain rfl:l=[]:=List.eq_nil_of_length_eq_zero (by omega);simp (disch:=first|assumption|(push_cast<;>omega)|rfl|omega) only [go_sem];refine AXa.go mixed (zh) (zg) (by kernel_rfl) ?_;simp only [go_sem];refine AXs.loop mixed (zh) (zg) (fun _:Nat=>[(0,.fs [] 0),(4,.nilS),(5,.int .i64 (-1))]) (fun _=>⟨[],0⟩) (fun n=>n=0) (fun n=>0) 0 (by kernel_rfl) rfl (Sub.of0 [] rfl rfl ?_ ?_) ?_
  ·simp only [go_sem];intro x hx;cases hx
  ·simp only [go_sem]
  rintro _ rfl;simp (disch:=first|assumption|(push_cast<;>omega)|rfl|omega) only [go_sem];refine AXa.go mixed (zh) (zg) (by kernel_rfl) ?_;simp only [go_sem];all_goals first|rfl|(intro x hx;cases hx)
 have hx:nthV (nats .i64 (l.drop (n - 1))) 0=.int .i64 (l.getD (n - 1) 0:Nat):=by rw [ze7 _ _ _ (by simp;omega)];simp
 simp (disch:=first|assumption|(push_cast<;>omega)|rfl|omega) only [go_sem,hx]
 (repeat refine sdC ?_);have hb:(decide (1<(n:Int))&&decide (((l.getD (n - 1) 0:Nat):Int)=0))=decide (1<n∧l.getD (n - 1) 0=0):=by
  have e1:1<(n:Int)↔1<n:=by omega
  have e2:((l.getD (n - 1) 0:Nat):Int)=0↔l.getD (n - 1) 0=0:=by omega
  simp only [e1,e2,Bool.decide_and]
 rw [hb];refine AXc.introP (fun h3=>?_) (fun h3=>?_)
 ·simp (disch:=first|assumption|(push_cast<;>omega)|rfl|omega) only [go_sem];refine zk (n - 1) ⟨by omega,fun _=>by omega,fun j hj=>?_⟩ (by omega) (Sub.of0 [] rfl rfl ?_ ?_)
  ·by_cases hji:n≤j
   ·exact h2 j hji
   ·obtain rfl:j=n - 1:=by omega
    exact h3.2
  ·simp only [go_sem];simp only [V.int.injEq,true_and];omega
  ·simp only [go_sem]
 simp (disch:=first|assumption|(push_cast<;>omega)|rfl|omega) only [go_sem];have h3':n≤1∨l.getD (n - 1) 0≠0:=by
  by_cases e:n≤1
  ·exact .inl e
  ·exact .inr fun e'=>h3 ⟨by omega,e'⟩
 refine AXa.go mixed (zh) (zg) (by kernel_rfl) ?_;simp only [go_sem];refine AXs.loop mixed (zh) (zg) (fun m:Nat=>[(0,.fs (nats .i64 l) l.length),(4,acV (accT l n m)),(5,.int .i64 ((m:Int) - 1))]) (fun m=>⟨acBt 5 (accT l n m),acN (accT l n m)⟩) (fun m=>m≤n) (fun m=>m) n (by kernel_rfl) (Nat.le_refl _) (Sub.of0 [] rfl ?_ ?_ ?_) ?_
 ·rw [zAG];rfl
 ·simp (disch:=first|assumption|(push_cast<;>omega)|rfl|omega) only [go_sem,zAG,acV]
 ·simp only [go_sem,zAG,acBt]
 intro m hm;have hl':=accT_len l n m h1;simp only [go_sem];rcases Nat.eq_zero_or_pos m with rfl|hm0
 ·simp only [go_sem];have hlt:=fin h3' h0;have he:accT l n 0=(l.take n).reverse.map (48+·):=by simp [accT]
  have hb:=zeK (l:=(l.take n).reverse) fun d hd=>ok d (List.mem_of_mem_take (List.mem_reverse.1 hd));rw [←he,hlt]at hb;generalize accT l n 0=w at hl' hb ⊢;rcases w with _|⟨d,w⟩
  ·simp at hl';omega
  simp only [go_sem,acV,acBt,acN];refine AXa.go mixed (zh) (zg) (by kernel_rfl) ?_;have c3:decide (((w.length+1:Nat):Int)=0)=false:=decide_eq_false (by omega);have hcv:∀ P:Program,P=prog→zdb P 197 9 (.sl 0 0 (w.length+1) 1 none) ⟨[(0,.ty 5 (nats .u8 (d::w)))],1⟩=⟨True,.str (dec (Ten.valL l)),⟨[(0,.ty 5 (nats .u8 (d::w)))],1⟩,[0],[]⟩:=by rintro _ rfl;exact zjq 197 9 5 _ (nats .u8 (d::w)) (w.length+1) [0] _ (by kernel_rfl) (by kernel_rfl) (by kernel_rfl) (by show (if _∧_ then some _ else none)=_;rw [if_pos ⟨rfl,by simp [nats]⟩];simp [nats,List.take_of_length_le]) hb
  simp (disch:=first|assumption|(push_cast<;>omega)|rfl|omega) only [go_sem,hb,c3,hcv]
 ·have hdr:=zAF l n (m - 1) (by omega) h1;rw [Nat.sub_add_cancel hm0]at hdr;have c1:decide (0≤(m:Int) - 1)=true:=decide_eq_true (by omega);have c2:((m:Int) - 1).toNat=m - 1:=by omega
  have hd9:l.getD (m - 1) 0≤9:=zcL ok _;generalize accT l n m=w at hdr hl' ⊢;rcases w with _|⟨d,w⟩
  ·simp (disch:=first|assumption|(push_cast<;>omega)|rfl|omega) only [go_sem,acV,acBt,acN,c1,c2]
   (repeat refine sdC ?_);refine zk (m - 1) (by omega) (by omega) (Sub.of0 [(0,1)] rfl (by rw [hdr];rfl) ?_ ?_)
   ·rw [hdr];simp only [go_sem,acV,acBt,acN];simp only [V.int.injEq,true_and];omega
   ·rw [hdr];simp only [go_sem,acV,acBt,acN];simp [nats]
  ·have hll:w.length+1=n - m:=hl';simp (disch:=first|assumption|(push_cast<;>omega)|rfl|omega) only [go_sem,acV,acBt,acN,c1,c2]
   (repeat refine sdC ?_);refine zk (m - 1) (by omega) (by omega) (Sub.of0 [(0,2)] rfl (by rw [hdr];rfl) ?_ ?_)
   ·rw [hdr];simp only [go_sem,acV,acBt,acN];simp;omega
   ·rw [hdr];simp only [go_sem,acV,acBt,acN];simp [nats]
noncomputable def znb:List V→Option PR:=zF (fun l:List Nat=>[.fs (nats .i64 l) l.length]) (fun l=>l.length≤1000000∧Ten.okL l) fun l=>.ret (.str (dec (Ten.valL l)))
theorem zfr(l:List Nat)(n:Nat)(hn:n=l.length)(h:l.length≤1000000)(ok:Ten.okL l):znb [.fs (nats .i64 l) n]=some (.ret (.str (dec (Ten.valL l)))):=by subst hn;exact zo (pat:=fun l:List Nat=>[V.fs (nats .i64 l) l.length]) (fun x y h=>by simp at h;exact zan h.1) l ⟨h,ok⟩
theorem zc9:∀ args r,znb args=some r→PCall prog 133 args r:=zn fun l h=>rtext_ok l h.1 h.2
attribute [go_sem] zfr
theorem rat_ok(l:List Nat)(i:Nat):PCall prog 131 [.fs (nats .i64 l) l.length,.int .i64 i] (.ret (.int .i64 (l.getD i 0:Nat))):=by
 refine PCall.wD (rs:=[.tmp 4]) [0,1,4,8] [] mixed (zh) (zg) call131 func131 rfl ntmps131 rfl ?_;simp only [go_sem];refine AXc.introP (fun h=>?_) (fun h=>?_)
 ·have hx:nthV (nats .i64 (l.drop i)) 0=.int .i64 (l.getD i 0:Nat):=by
   rw [ze7 _ _ _ (by simp;omega)];simp
  simp (disch:=first|assumption|(push_cast<;>omega)|omega) only [go_sem,hx]
  (repeat refine sdC ?_)
  omega
 ·have e:l.getD i 0=0:=zaZ _ _ _ (by omega);simp (disch:=first|assumption|(push_cast<;>omega)|omega) only [go_sem,e]
noncomputable def cRAt:List V→Option PR:=zF (fun p:List Nat×Nat=>[.fs (nats .i64 p.1) p.1.length,.int .i64 p.2]) (fun _=>True) fun p=>.ret (.int .i64 (p.1.getD p.2 0:Nat))
theorem cRAt_eq(l:List Nat)(n:Nat)(hn:n=l.length)(i:Nat):cRAt [.fs (nats .i64 l) n,.int .i64 i]=some (.ret (.int .i64 (l.getD i 0:Nat))):=by subst hn;exact zo (pat:=fun p:List Nat×Nat=>[V.fs (nats .i64 p.1) p.1.length,.int .i64 p.2]) (fun x y h=>by simp at h;exact Prod.ext (zan h.1.1) (by omega)) (l,i) trivial
theorem zd4:∀ args r,cRAt args=some r→PCall prog 131 args r:=zn fun p _=>rat_ok p.1 p.2
attribute [go_sem] cRAt_eq
theorem zof(n:Nat):PCall prog 132 [.str (dec n)] (.ret (limV n)):=by
 refine PCall.wD (rs:=[.tmp 2,.tmp 3]) [0,2,3,6] [] mixed (zh) (zg) call132 func132 rfl ntmps132 rfl ?_;simp (disch:=first|assumption|(push_cast<;>omega)|omega) only [go_sem];refine AXc.introP (fun h1=>?_) (fun h1=>?_)
 ·have:1000<(dec n).length:=by omega
  simp only [go_sem,limV,this]
 ·have:¬1000<(dec n).length:=by omega
  simp only [go_sem,limV,this]
theorem zT {m n:Nat}(h:dec m=dec n):m=n:=by rw [←zZ m,h,zZ]
noncomputable def znd:List V→Option PR:=zF (fun n:Nat=>[.str (dec n)]) (fun _=>True) fun n=>.ret (limV n)
theorem znc(n:Nat):znd [.str (dec n)]=some (.ret (limV n)):=zo (pat:=fun n:Nat=>[V.str (dec n)]) (fun x y h=>by simp at h;exact zT h) n trivial
theorem zcP:∀ args r,znd args=some r→PCall prog 132 args r:=zn fun n _=>zof n
attribute [go_sem] znc
theorem zon(a b:List UInt8)(ha:dec (valD a)=a)(hb:dec (valD b)=b)(hl:a.length≤1000000):PCall prog 134 [.str a,.str b] (.ret (.int .i64 (cmpI (valD a) (valD b)))):=by
 refine PCall.wD (rs:=[.tmp 4]) [0,1,4,5,10,15,19,28,35] [] mixed (zh) (zg) call134 func134 rfl ntmps134 rfl ?_;have da:a.all zaM=true:=by rw [←ha];exact zce _
 have db:b.all zaM=true:=by rw [←hb];exact zce _
 simp only [go_sem];refine AXc.introN (fun h=>?_) (fun h=>?_)
 ·simp only [go_sem];refine AXc.introP (fun h1=>?_) (fun h1=>?_)
  ·have:valD a<valD b:=zdA (by rw [ha,hb];omega);simp only [go_sem];simp [cmpI,this]
  ·have:valD b<valD a:=zdA (by rw [ha,hb];omega);have:¬valD a<valD b:=by omega
   simp only [go_sem];simp [cmpI, *]
 have hle:a.length=b.length:=by omega
 simp only [go_sem];refine AXs.loop mixed (zh) (zg) (fun i:Nat=>[(0,.str a),(1,.str b),(5,.int .i64 i)]) (fun _=>⟨[],0⟩) (fun i=>i≤a.length∧a.take i=b.take i) (fun i=>a.length - i) 0 (by kernel_rfl) (by simp) (Sub.of0 [] rfl rfl ?_ ?_) ?_
 ·simp only [go_sem]
 ·simp only [go_sem]
 rintro i ⟨h1,h2⟩;simp only [go_sem];refine AXc.introP (fun h3=>?_) (fun h3=>?_)
 ·simp (disch:=first|assumption|(push_cast<;>omega)|omega) only [go_sem]
  (repeat refine sdC ?_);refine AXc.introN (fun h4=>?_) (fun h4=>?_)
  ·simp (disch:=first|assumption|(push_cast<;>omega)|omega) only [go_sem]
   (repeat refine sdC ?_);refine AXc.introP (fun h5=>?_) (fun h5=>?_)
   ·have:valD a<valD b:=ziR da db hle (by omega) h2 (UInt8.lt_iff_toNat_lt.2 (by omega));simp only [go_sem];simp [cmpI,this]
   ·have:valD b<valD a:=ziR db da hle.symm (by omega) h2.symm (UInt8.lt_iff_toNat_lt.2 (by omega));have:¬valD a<valD b:=by omega
    simp only [go_sem];simp [cmpI, *]
  ·simp (disch:=first|assumption|(push_cast<;>omega)|omega) only [go_sem];refine zk (i+1) ⟨by omega,?_⟩ (by omega) (Sub.of0 [] rfl rfl ?_ ?_)
   ·have:a.getD i 0=b.getD i 0:=UInt8.toNat_inj.1 (by omega);have e:a[i]? =b[i]? :=by rw [List.getD_eq_getElem?_getD,List.getD_eq_getElem?_getD]at this;rw [List.getElem?_eq_getElem (by omega),List.getElem?_eq_getElem (by omega)]at this ⊢;exact congrArg some this
    rw [List.take_add_one,List.take_add_one,h2,e]
   ·simp only [go_sem];simp
   ·simp only [go_sem]
 ·simp only [go_sem];refine AXa.go mixed (zh) (zg) (by kernel_rfl) ?_;simp only [go_sem];have:a=b:=by rw [←List.take_of_length_le (l:=a) (i:=i) (by omega),h2,List.take_of_length_le (by omega)]
  subst this;simp [cmpI]
noncomputable def zd3:List V→Option PR:=zF (fun p:List UInt8×List UInt8=>[.str p.1,.str p.2]) (fun p=>dec (valD p.1)=p.1∧dec (valD p.2)=p.2∧p.1.length≤1000000) fun p=>.ret (.int .i64 (cmpI (valD p.1) (valD p.2)))
theorem zcQ(a b:List UInt8)(ha:dec (valD a)=a)(hb:dec (valD b)=b)(hl:a.length≤1000000):zd3 [.str a,.str b]=some (.ret (.int .i64 (cmpI (valD a) (valD b)))):=zo (pat:=fun p:List UInt8×List UInt8=>[.str p.1,.str p.2]) (fun x y h=>by simp at h;exact Prod.ext h.1 h.2) (a,b) ⟨ha,hb,hl⟩
theorem zd2:∀ args r,zd3 args=some r→PCall prog 134 args r:=zn fun p h=>zon p.1 p.2 h.1 h.2.1 h.2.2
attribute [go_sem] zcQ
theorem zak {a:List UInt8}(h:zG a=true):dec (valD a)=a:=(validN_iff.1 h).1.1
theorem rCmp_ok(a b:List UInt8):PCall prog 87 [.str a,.str b] (.ret (.int .i64 (cmpV a b))):=by
 refine PCall.wD (rs:=[.tmp 4]) [0,1,4,12] [] mixed (zf za1 (zf zd2 zh)) (zg) call87 func87 rfl ntmps87 rfl ?_;by_cases ha:zG a=true
 case neg=>simp only [go_sem,cmpV,ha]
 by_cases hb:zG b=true
 case neg=>simp only [go_sem,cmpV,ha,hb]
 have la:=zN ha;have ea:=zak ha;have eb:=zak hb;simp (disch:=first|assumption|(push_cast<;>omega)|omega) only [go_sem,cmpV,ha,hb]
theorem rless_ok(x y:List Nat)(hx:Ten.okL x)(hy:Ten.okL y)(hl:x.length≤100000)(hy':y.length≤100000):PCall prog 135 [.fs (nats .i64 x) x.length,.fs (nats .i64 y) y.length] (.ret (.fs (nats .i64 (Ten.eachR Ten.minusF x y x.length).1) x.length)):=by
 refine PCall.wD (rs:=[.tmp 4]) [0,1,4,5,6,7,8,12,25] [] mixed (zf zd4 zh) (zg) call135 func135 rfl ntmps135 rfl ?_;simp only [go_sem];refine AXs.loop mixed (zf zd4 zh) (zg) (fun i:Nat=>[(0,.fs (nats .i64 x) x.length),(1,.fs (nats .i64 y) y.length),(5,acV (Ten.eachR Ten.minusF x y i).1),(6,.int .i64 (Ten.eachR Ten.minusF x y i).2),(7,.int .i64 i)]) (fun i=>⟨acBs .i64 (Ten.eachR Ten.minusF x y i).1,acN (Ten.eachR Ten.minusF x y i).1⟩) (fun i=>i≤x.length) (fun i=>x.length - i) 0 (by kernel_rfl) (by simp) (Sub.of0 [] rfl rfl ?_ ?_) ?_
 ·simp only [go_sem,Ten.eachR,acV]
 ·simp only [go_sem,Ten.eachR,acBs]
 intro i h1;have hc:=Ten.minus_carry x y i;have hlen:=Ten.eachR_len Ten.minusF x y i;simp only [go_sem];refine AXc.introP (fun h3=>?_) (fun h3=>?_)
 ·have h9x:x.getD i 0≤9:=zcL hx i;have h9y:y.getD i 0≤9:=zcL hy i;have hs:(Ten.eachR Ten.minusF x y (i+1))=((Ten.eachR Ten.minusF x y i).1++[(zs7 (x.getD i 0) (y.getD i 0) (Ten.eachR Ten.minusF x y i).2).1],(zs7 (x.getD i 0) (y.getD i 0) (Ten.eachR Ten.minusF x y i).2).2):=by rw [lessF_eq (by omega) (by omega) hc];rfl
  generalize (Ten.eachR Ten.minusF x y i)=wc at hc hlen hs ⊢;obtain⟨w,c⟩:=wc;dsimp only at hc hlen hs ⊢;obtain⟨p,hp⟩:∃ p,x.getD i 0=p:=⟨_,rfl⟩;obtain⟨q,hq⟩:∃ q,y.getD i 0=q:=⟨_,rfl⟩;rw [hp]at h9x hs;rw [hq]at h9y hs;simp (disch:=first|assumption|(push_cast<;>omega)|omega) only [go_sem,hp,hq];refine AXc.introP (fun h4=>?_) (fun h4=>?_)
  ·have e:zs7 p q c=(p+10 - q - c,1):=if_pos (by omega);have e2:((p+10 - q - c:Nat):Int)=p - q - c+10:=by omega
   rw [e]at hs;simp (disch:=first|assumption|(push_cast<;>omega)|omega) only [go_sem];rcases w with _|⟨d,w⟩
   ·simp (disch:=first|assumption|(push_cast<;>omega)|omega) only [go_sem,acV,acBs,acN]
    (repeat refine sdC ?_);refine zk (i+1) (by omega) (by omega) (Sub.of0 [(0,1)] rfl (by rw [hs];rfl) ?_ ?_)
    ·rw [hs];simp only [go_sem,acV,acBs,acN,e2];simp
    ·rw [hs];simp only [go_sem,acV,acBs,acN,e2];simp [nats,e2]
   ·simp (disch:=first|assumption|(push_cast<;>omega)|omega) only [go_sem,acV,acBs,acN];have hll:w.length+1=i:=hlen
    (repeat refine sdC ?_);refine zk (i+1) (by omega) (by omega) (Sub.of0 [(0,2)] rfl (by rw [hs];rfl) ?_ ?_)
    ·rw [hs];simp only [go_sem,acV,acBs,acN,e2];simp
    ·rw [hs];simp only [go_sem,acV,acBs,acN,e2];simp [nats,e2]
  ·have e:zs7 p q c=(p - q - c,0):=if_neg (by omega);have e2:((p - q - c:Nat):Int)=p - q - c:=by omega
   rw [e]at hs;rcases w with _|⟨d,w⟩
   ·simp (disch:=first|assumption|(push_cast<;>omega)|omega) only [go_sem,acV,acBs,acN]
    (repeat refine sdC ?_);refine zk (i+1) (by omega) (by omega) (Sub.of0 [(0,1)] rfl (by rw [hs];rfl) ?_ ?_)
    ·rw [hs];simp only [go_sem,acV,acBs,acN,e2];simp
    ·rw [hs];simp only [go_sem,acV,acBs,acN,e2];simp [nats,e2]
   ·simp (disch:=first|assumption|(push_cast<;>omega)|omega) only [go_sem,acV,acBs,acN];have hll:w.length+1=i:=hlen
    (repeat refine sdC ?_);refine zk (i+1) (by omega) (by omega) (Sub.of0 [(0,2)] rfl (by rw [hs];rfl) ?_ ?_)
    ·rw [hs];simp only [go_sem,acV,acBs,acN,e2];simp
    ·rw [hs];simp only [go_sem,acV,acBs,acN,e2];simp [nats,e2]
 ·obtain rfl:i=x.length:=by omega
  simp only [go_sem];generalize (Ten.eachR Ten.minusF x y x.length).1=w at hlen ⊢;rw [←hlen];rcases w with _|⟨d,w⟩
  ·simp only [go_sem,acV,acBs,acN];refine AXa.go mixed (zf zd4 zh) (zg) (by kernel_rfl) ?_;simp only [go_sem]
  ·simp only [go_sem,acV,acBs,acN];refine AXa.go mixed (zf zd4 zh) (zg) (by kernel_rfl) ?_;simp only [go_sem];exact Frz.slp rfl rfl (by simp [zM]) (by simp [zbO]) (zY _ _)
noncomputable def zzx:List V→Option PR:=zF (fun p:List Nat×List Nat=>[.fs (nats .i64 p.1) p.1.length,.fs (nats .i64 p.2) p.2.length]) (fun p=>Ten.okL p.1∧Ten.okL p.2∧p.1.length≤100000∧p.2.length≤100000) fun p=>.ret (.fs (nats .i64 (Ten.eachR Ten.minusF p.1 p.2 p.1.length).1) p.1.length)
theorem znf(x y:List Nat)(m n:Nat)(hm:m=x.length)(hn:n=y.length)(hx:Ten.okL x)(hy:Ten.okL y)(hl:x.length≤100000)(hl':y.length≤100000):zzx [.fs (nats .i64 x) m,.fs (nats .i64 y) n]=some (.ret (.fs (nats .i64 (Ten.eachR Ten.minusF x y m).1) m)):=by subst hm hn;exact zo (pat:=fun p:List Nat×List Nat=>[V.fs (nats .i64 p.1) p.1.length,.fs (nats .i64 p.2) p.2.length]) (fun x y h=>by simp at h;exact Prod.ext (zan h.1.1) (zan h.2.1)) (x,y) ⟨hx,hy,hl,hl'⟩
theorem zne:∀ args r,zzx args=some r→PCall prog 135 args r:=zn fun p h=>rless_ok p.1 p.2 h.1 h.2.1 h.2.2.1 h.2.2.2
attribute [go_sem] znf
theorem rSub_ok(a b:List UInt8):PCall prog 88 [.str a,.str b] (.ret (subV a b)):=by
 refine PCall.wD (rs:=[.tmp 4,.tmp 5]) [0,1,4,5,13,17] [] mixed (zf za1 (zf zd2 (zf zb0 (zf zne (zf zc9 zh))))) (zg) call88 func88 rfl ntmps88 rfl ?_;by_cases ha:zG a=true
 case neg=>simp only [go_sem,subV,ha,errV]
 by_cases hb:zG b=true
 case neg=>simp only [go_sem,subV,ha,hb,errV]
 have la:=zN ha;have lb:=zN hb;have ea:=zak ha;have eb:=zak hb;have da:=zW ha;have db:=zW hb;have ka:=zcm a;have kb:=zcm b;have oa:=zd1 da;have ob:=zd1 db;have va:=zcO a;have vb:=zcO b;by_cases h:valD a<valD b
 ·have e:cmpI (valD a) (valD b)= -1:=by simp [cmpI,h]
  simp (disch:=first|assumption|(push_cast<;>omega)|omega) only [go_sem,subV,ha,hb,h,errV,e]
 ·have e:decide (cmpI (valD a) (valD b)<0)=false:=by
   simp only [cmpI];split
   ·omega
   ·split<;>rfl
  have hle:Ten.valL (digD b)≤Ten.valL (digD a):=by omega
  have hlen:b.length≤a.length:=Nat.le_of_not_lt fun hlt=>h (zdA (by rw [ea,eb];exact hlt))
  obtain⟨h1,h2⟩:=zqO oa ob (by omega) hle
  have h3:=Ten.eachR_len Ten.minusF (digD a) (digD b) (digD a).length
  rw [va,vb]at h1
  rw [ka]at h1 h2 h3
  have ka':=ka.symm
  have kb':=kb.symm
  have h3':=h3.symm
  simp (disch:=first|assumption|(push_cast<;>omega)|omega) only [go_sem,subV,ha,hb,h,e,h1]
theorem zet {x y:List Nat}(hx:Ten.okL x)(hy:Ten.okL y):∀ i,(Ten.eachR Ten.plusF x y i).2≤1
 |0=>by simp [Ten.eachR]
 |i+1=>by have ih:=zet hx hy i;have h1:=zcL hx i;have h2:=zcL hy i;show (_+_+_) / 10≤1;omega
theorem rAdd_ok(a b:List UInt8):PCall prog 86 [.str a,.str b] (.ret (addV a b)):=by
 refine PCall.wD (rs:=[.tmp 4,.tmp 5]) [0,1,4,5,6,7,8,9,10,11,19,33] [] mixed (zf za1 (zf zb0 (zf zd4 (zf zc9 (zf zcP zh))))) (zg) call86 func86 rfl ntmps86 rfl ?_;by_cases ha:zG a=true
 case neg=>simp only [go_sem,addV,ha,errV]
 by_cases hb:zG b=true
 case neg=>simp only [go_sem,addV,ha,hb,errV]
 have la:=zN ha;have lb:=zN hb;have da:=zW ha;have db:=zW hb;have ka:=(zcm a).symm;have kb:=(zcm b).symm;have oa:=zd1 da;have ob:=zd1 db;have va:=zcO a;have vb:=zcO b;simp (disch:=first|assumption|(push_cast<;>omega)|omega) only [go_sem,ha,hb];rw [ka,kb];have la':(digD a).length≤1000:=by omega
 have lb':(digD b).length≤1000:=by omega
 have goalV:addV a b=limV (Ten.valL (digD a)+Ten.valL (digD b)):=by simp only [addV,ha,hb,va,vb,and_self,if_true]
 rw [goalV];generalize digD a=x at oa la' ⊢;generalize digD b=y at ob lb' ⊢;refine AXs.loop mixed ((zf za1 (zf zb0 (zf zd4 (zf zc9 (zf zcP zh)))))) (zg) (fun i:Nat=>[(6,.fs (nats .i64 x) x.length),(7,.fs (nats .i64 y) y.length),(8,acV (Ten.eachR Ten.plusF x y i).1),(9,.int .i64 (Ten.eachR Ten.plusF x y i).2),(10,.int .i64 i)]) (fun i=>⟨acBs .i64 (Ten.eachR Ten.plusF x y i).1,acN (Ten.eachR Ten.plusF x y i).1⟩) (fun i=>i≤max x.length y.length+1) (fun i=>max x.length y.length+1 - i) 0 (by kernel_rfl) (by simp) (Sub.of0 [] rfl rfl ?_ ?_) ?_
 ·simp only [go_sem,Ten.eachR,acV]
 ·simp only [go_sem,Ten.eachR,acBs]
 intro i h1;have hc:=zet oa ob i;have hlen:=Ten.eachR_len Ten.plusF x y i;obtain⟨sv,ev,hse⟩:=zgD (Ten.valL x+Ten.valL y);simp only [go_sem];refine AXc.intro (fun h3=>?_) (fun h3=>?_)
 ·have h3':i<max x.length y.length+1:=by
   simp only [Bool.or_eq_true,decide_eq_true_eq]at h3;omega
  have h9x:x.getD i 0≤9:=zcL oa i
  have h9y:y.getD i 0≤9:=zcL ob i
  have hs:(Ten.eachR Ten.plusF x y (i+1))=((Ten.eachR Ten.plusF x y i).1++[(x.getD i 0+y.getD i 0+(Ten.eachR Ten.plusF x y i).2) % 10],(x.getD i 0+y.getD i 0+(Ten.eachR Ten.plusF x y i).2) / 10):=rfl
  generalize (Ten.eachR Ten.plusF x y i)=wc at hc hlen hs ⊢
  obtain⟨w,c⟩:=wc
  dsimp only at hc hlen hs ⊢
  obtain⟨p,hp⟩:∃ p,x.getD i 0=p:=⟨_,rfl⟩
  obtain⟨q,hq⟩:∃ q,y.getD i 0=q:=⟨_,rfl⟩
  rw [hp]at h9x hs
  rw [hq]at h9y hs
  have e1:Int.tmod ((p:Int)+q+c) 10=((p+q+c) % 10:Nat):=by rw [show (p:Int)+q+c=(p+q+c:Nat)by omega];rfl
  have e2:Int.tdiv ((p:Int)+q+c) 10=((p+q+c) / 10:Nat):=by rw [show (p:Int)+q+c=(p+q+c:Nat)by omega];rfl
  rcases w with _|⟨d,w⟩
  ·simp (disch:=first|assumption|(push_cast<;>omega)|omega) only [go_sem,acV,acBs,acN,hp,hq,e1,e2]
   (repeat refine sdC ?_);refine zk (i+1) (by omega) (by omega) (Sub.of0 [(0,1)] rfl (by rw [hs];rfl) ?_ ?_)
   ·rw [hs];simp only [go_sem,acV,acBs,acN];simp
   ·rw [hs];simp only [go_sem,acV,acBs,acN];simp [nats]
  ·simp (disch:=first|assumption|(push_cast<;>omega)|omega) only [go_sem,acV,acBs,acN,hp,hq,e1,e2];have hll:w.length+1=i:=hlen
   (repeat refine sdC ?_);refine zk (i+1) (by omega) (by omega) (Sub.of0 [(0,2)] rfl (by rw [hs];rfl) ?_ ?_)
   ·rw [hs];simp only [go_sem,acV,acBs,acN];simp
   ·rw [hs];simp only [go_sem,acV,acBs,acN];simp [nats]
 ·have h3':i=max x.length y.length+1:=by
   simp only [Bool.or_eq_false_iff,decide_eq_false_iff_not]at h3;omega
  obtain⟨h4,h5⟩:=add_val (n:=i) oa ob (by omega) (by omega)
  generalize (Ten.eachR Ten.plusF x y i)=wc at hc hlen h4 h5 ⊢
  obtain⟨w,c⟩:=wc
  dsimp only at hc hlen h4 h5 ⊢
  rcases w with _|⟨d,w⟩
  ·simp at hlen;omega
  simp only [go_sem,acV,acBs,acN]
  refine AXa.go mixed (zf za1 (zf zb0 (zf zd4 (zf zc9 (zf zcP zh))))) (zg) (by kernel_rfl) ?_
  have ht:(d::w).take (w.length+1)=d::w:=List.take_of_length_le (Nat.le_refl _)
  have h6:(d::w).length≤1000000:=by omega
  have h7:znb [.fs (nats .i64 (d::w)) (w.length+1)]=some (.ret (.str (dec (Ten.valL x+Ten.valL y)))):=by rw [←h4];exact zfr _ _ rfl h6 h5
  simp (disch:=first|assumption|(push_cast<;>omega)|omega) only [go_sem,ht,h7,hse]
theorem rMul_ok(a b:List UInt8):PCall prog 89 [.str a,.str b] (.ret (mulV a b)):=by
 have hΓ:=zf za1 (zf zb0 (zf zd4 (zf zc9 (zf zcP zh))));refine PCall.wD (rs:=[.tmp 4,.tmp 5]) [0,1,4,5,6,7,8,9,10,11,12,20,35,41] [] mixed (hΓ) (zg) call89 func89 rfl ntmps89 rfl ?_;by_cases ha:zG a=true
 case neg=>simp only [go_sem,mulV,ha,errV]
 by_cases hb:zG b=true
 case neg=>simp only [go_sem,mulV,ha,hb,errV]
 have la:=zN ha;have lb:=zN hb;have da:=zW ha;have db:=zW hb;have ka:=(zcm a).symm;have kb:=(zcm b).symm;have ox:=zd1 da;have oy:=zd1 db;have va:=zcO a;have vb:=zcO b;have goalV:mulV a b=limV (Ten.valL (digD a)*Ten.valL (digD b)):=by simp only [mulV,ha,hb,va,vb,and_self,if_true]
 rw [goalV];have hc1:zep [.str a]=some (.ret (.fs (nats .i64 (digD a)) (digD a).length)):=by rw [←ka];exact zcD a da (by omega)
 have hc2:zep [.str b]=some (.ret (.fs (nats .i64 (digD b)) (digD b).length)):=by rw [←kb];exact zcD b db (by omega)
 have la':(digD a).length≤1000:=by omega
 have lb':(digD b).length≤1000:=by omega
 simp (disch:=first|assumption|(push_cast<;>omega)|omega) only [go_sem,ha,hb,hc1,hc2];clear goalV va vb hc1 hc2 ka kb;generalize digD a=x at*;generalize digD b=y at*;obtain⟨s,e,hse⟩:=zgD (Ten.valL x*Ten.valL y);simp (disch:=first|assumption|(push_cast<;>omega)|omega) only [go_sem,zjS,zk1];refine⟨by omega,?_⟩;refine AXs.loop mixed (hΓ) (zg) (fun(p:Nat×List Nat)=>[(6,.fs (nats .i64 x) x.length),(7,.fs (nats .i64 y) y.length),(8,.sl 0 0 (x.length+y.length+1) 1 (some (x.length+y.length+1))),(9,.int .i64 p.1)]) (fun p=>⟨[(0,.cells (nats .i64 p.2))],1⟩)
  (fun p=>p.1≤x.length∧Ten.mulOut x y p.1 p.2) (fun p=>x.length - p.1) (0,List.replicate (x.length+y.length+1) 0) (by kernel_rfl) ⟨Nat.zero_le _,Ten.mul_start x y⟩ (Sub.of0 [] rfl rfl ?_ ?_) ?_
 ·simp only [go_sem]
 ·simp only [go_sem]
 rintro⟨i,l0⟩ ⟨hi,ho⟩;dsimp only at hi ho ⊢;simp (disch:=first|assumption|(push_cast<;>omega)|omega) only [go_sem];refine AXc.introP (fun h1=>?_) (fun h1=>?_)
 ·have hix:i<x.length:=by omega
  simp (disch:=first|assumption|(push_cast<;>omega)|omega) only [go_sem];refine AXs.loop mixed (hΓ) (zg) (fun(p:Nat×List Nat×Nat)=>[(6,.fs (nats .i64 x) x.length),(7,.fs (nats .i64 y) y.length),(8,.sl 0 0 (x.length+y.length+1) 1 (some (x.length+y.length+1))),(9,.int .i64 i),(10,.int .i64 p.2.2),(11,.int .i64 p.1)]) (fun p=>⟨[(0,.cells (nats .i64 p.2.1))],1⟩)
   (fun p=>p.1≤y.length+1∧Ten.mulInv x y i (Ten.valL l0) p.1 p.2.1 p.2.2) (fun p=>y.length+1 - p.1) (0,l0,0) (by kernel_rfl) ⟨Nat.zero_le _,Ten.mul_row ho⟩ (Sub.of0 [] rfl rfl ?_ ?_) ?_
  ·simp only [go_sem]
  ·simp only [go_sem]
  rintro⟨k,l,c⟩ ⟨hk,hv⟩;dsimp only at hk hv ⊢;have hl:=hv.1;have hkl:=hv.2.1;have hcl:=hv.2.2.1;simp (disch:=first|assumption|(push_cast<;>omega)|omega) only [go_sem];refine AXc.introP (fun h2=>?_) (fun h2=>?_)
  ·have hky:k≤y.length:=by omega
   have hst:=Ten.mul_step ox oy hix hky hv;have hpl:=Ten.mulP_lt (i:=i) (k:=k) ox oy hkl hcl;have hgl:=zcL hkl (i+k);have hm:(x.getD i 0:Int)*(y.getD k 0:Int)=((x.getD i 0*y.getD k 0:Nat):Int):=by simp
   have hp1:Ten.mulP x y i k l c=l.getD (i+k) 0+c+x.getD i 0*y.getD k 0:=rfl;generalize x.getD i 0*y.getD k 0=q at*;have e1:Int.tmod ((l.getD (i+k) 0:Nat)+(q:Int)+c) 10=(Ten.mulP x y i k l c % 10:Nat):=by rw [hp1,show ((l.getD (i+k) 0:Nat):Int)+(q:Int)+c=(l.getD (i+k) 0+c+q:Nat)by omega];rfl
   have e2:Int.tdiv ((l.getD (i+k) 0:Nat)+(q:Int)+c) 10=(Ten.mulP x y i k l c / 10:Nat):=by rw [hp1,show ((l.getD (i+k) 0:Nat):Int)+(q:Int)+c=(l.getD (i+k) 0+c+q:Nat)by omega];rfl
   simp (disch:=first|assumption|(push_cast<;>omega)|omega) only [go_sem,hm];refine⟨⟨by omega,by omega⟩,by omega,⟨by omega,by omega⟩,by omega,AXk.intro (by kernel_rfl) ?_⟩;simp (disch:=first|assumption|(push_cast<;>omega)|omega) only [go_sem,e1,e2]
   (repeat refine sdC ?_);refine zk (k+1,l.set (i+k) (Ten.mulP x y i k l c % 10),Ten.mulP x y i k l c / 10) ⟨by omega,hst⟩ (by dsimp only;omega) (Sub.of0 [] rfl rfl ?_ ?_)
   ·simp only [go_sem];simp
   ·simp only [go_sem]
  ·have hke:k=y.length+1:=by omega
   subst hke;have hen:=Ten.mul_end ho hv;simp (disch:=first|assumption|(push_cast<;>omega)|omega) only [go_sem];refine AXa.go mixed (hΓ) (zg) (by kernel_rfl) ?_;simp (disch:=first|assumption|(push_cast<;>omega)|omega) only [go_sem];refine zk (i+1,l) ⟨by omega,hen⟩ (by dsimp only;omega) (Sub.of0 [] rfl rfl ?_ ?_)
   ·simp only [go_sem];simp
   ·simp only [go_sem]
 ·have hie:i=x.length:=by omega
  subst hie;have hll:=ho.1;have hmv:Ten.valL l0=Ten.valL x*Ten.valL y:=by rw [ho.2.2.1,List.take_length]
  have h7:znb [.fs (nats .i64 l0) (x.length+y.length+1)]=some (.ret (.str (dec (Ten.valL x*Ten.valL y)))):=by rw [←hmv];exact zfr _ _ hll.symm (by omega) ho.2.1
  have ht:l0.take (x.length+y.length+1)=l0:=List.take_of_length_le (by omega);simp only [go_sem];refine AXa.go mixed (hΓ) (zg) (by kernel_rfl) ?_;have hle:x.length+y.length+1≤l0.length:=by omega
  simp (disch:=first|assumption|(push_cast<;>omega)|omega) only [go_sem,h7,ht,hse,hle]
end Go.Proofs

namespace Go.Pl
theorem zao {m n:Nat}(h:m≤n):(dec m).length≤(dec n).length:=Nat.le_of_not_lt fun hlt=>by have:=zdA hlt;omega
theorem zre {r d:Nat}(hr:0<r)(hd:d<10):dec r++[dg d]=dec (10*r+d):=by
 rw [zdB (n:=10*r+d) (by omega)];have e1:(10*r+d) / 10=r:=by omega
 have e2:(10*r+d) % 10=d:=by omega
 rw [e1,e2];rfl
theorem zyA {d:Nat}(hd:d<10):[dg d]=dec (10*0+d):=by rw [Nat.mul_zero,Nat.zero_add,zbu hd];rfl
theorem dg_of {c:UInt8}(h:zaM c=true):dg (c.toNat - 48)=c:=by have:=zbx h;unfold dg;apply UInt8.toNat_inj.1;rw [UInt8.toNat_ofNat'];omega
theorem zrd:dec 0=[48]:=rfl
theorem dec_is_zero {n:Nat}:dec n=[48]↔n=0:=by
 constructor
 ·intro h;have:=congrArg valD h;rw [zZ]at this;exact this
 ·rintro rfl;rfl
theorem zvg {a:List UInt8}{i:Nat}(h:i<a.length):valD (a.take (i+1))=10*valD (a.take i)+((a.getD i 0).toNat - 48):=by
 have:a.take (i+1)=a.take i++[a.getD i 0]:=by rw [List.take_add_one,List.getD_eq_getElem?_getD,List.getElem?_eq_getElem h];rfl
 rw [this,zbM]
theorem quo_step {V n d:Nat}(hn:0<n)(hd:d<10):(10*V+d) / n=10*(V / n)+(10*(V % n)+d) / n∧(10*V+d) % n=(10*(V % n)+d) % n∧(10*(V % n)+d) / n<10:=by
 have h:=Nat.div_add_mod V n;have hm:=Nat.mod_lt V hn;have e:10*V+d=10*(V % n)+d+n*(10*(V / n)):=by rw [Nat.mul_left_comm];omega
 refine⟨?_,?_,?_⟩
 ·rw [e,Nat.add_mul_div_left _ _ hn];omega
 ·rw [e,Nat.add_mul_mod_self_left]
 ·exact(Nat.div_lt_iff_lt_mul hn).2 (by omega)
theorem quo_text {w:List Nat}{k:Nat}(ok:∀ d∈w,d<10)(hk:k<w.length)(hz:∀ j,j<k→w.getD j 0=0)(h1:k=w.length - 1∨w.getD k 0≠0):(w.drop k).map dg=dec (valD (w.map dg)):=by
 have key:∀(w:List Nat) (k:Nat),(∀ j,j<k→w.getD j 0=0)→valD (w.map dg)=valD ((w.drop k).map dg):=by
  intro w k;induction k generalizing w with
  |zero=>intro _;rfl
  |succ k ih=>
   intro hz;cases w with
   |nil=>rfl
   |cons d w=>have hd:d=0:=hz 0 (by omega);rw [List.drop_succ_cons, ←ih w fun j hj=>by simpa using hz (j+1) (by omega),hd,List.map_cons,zbN];have:(dg 0).toNat - 48=0:=rfl;rw [this];omega
 rw [key w k hz];refine(zgG ?_ ?_ ?_).symm
 ·exact zyx fun d hd=>ok d (List.mem_of_mem_drop hd)
 ·intro e;have:=congrArg List.length e;simp at this;omega
 ·rcases h1 with h1|h1
  ·left;simp;omega
  ·right;have hlt:w.getD k 0<10:=by rw [List.getD_eq_getElem?_getD,List.getElem?_eq_getElem hk];exact ok _ (List.getElem_mem _)
   have e:((w.drop k).map dg).getD 0 0=dg (w.getD k 0):=by rw [zh0 w k 0 hk];rfl
   rw [e];have:=zbr hlt;unfold dg;omega
end Go.Pl
