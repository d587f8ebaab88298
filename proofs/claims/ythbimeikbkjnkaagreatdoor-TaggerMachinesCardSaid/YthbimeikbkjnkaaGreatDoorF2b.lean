/- The reference's natural numbers: text, comparison, single digits. -/
import Derived.Test.YthbimeikbkjnkaaGreatDoorQNat4
set_option linter.all false
set_option maxHeartbeats 16000000
set_option maxRecDepth 100000
namespace Go.Proofs
open Tryz Go.Ab Go.Pl
theorem ze9:∀ {l:List Nat},Ten.okL l→bytesOf (nats .u8 (l.map (48+·)))=some (l.map dg)
 |[],_=>rfl
 |d::l,h=>by
  have ih:=ze9 (l:=l) fun x hx=>h x (Yz _ hx);simp only [YM,nats]at ih ⊢;unfold bytesOf;rw [ih];have e:(((48+d:Nat):Int)).toNat=48+d:=by omega
  rw [e];rfl
def accT(l:List Nat)(n m:Nat):List Nat:=((l.take n).drop m).reverse.map (48+·)
theorem zBS(l:List Nat)(n:Nat):accT l n n=[]:=by simp [accT,Yb9]
theorem accT_len(l:List Nat)(n m:Nat)(h:n≤l.length):(accT l n m).length=n - m:=by simp [accT];omega
theorem zBR(l:List Nat)(n m:Nat)(h:m<n)(hn:n≤l.length):accT l n m=accT l n (m+1)++[48+l.getD m 0]:=by
 have:(l.take n).drop m=l.getD m 0::(l.take n).drop (m+1):=by rw [YaV (by simp;omega)];rw [List.getElem_take,Ya,Yb (by omega)];rfl
 rw [accT,this,Ycr,Yau];rfl
theorem zcX {l:List Nat}(ok:Ten.okL l)(i:Nat):l.getD i 0≤9:=by
 by_cases h:i<l.length
 ·rw [Ya,Yb h];have:=ok _ (YZ h);exact Nat.le_of_lt_succ this
 ·rw [za6 _ _ _ (by omega)];omega
theorem rnb_tyF {π:Nat→Nat}{N:Nat→Prop}(t:TypeId)(cs cs':List V):RnB π N (.ty t cs) (.ty t cs')↔LRel (Rn π N) cs cs':=⟨fun h=>by cases h;assumption,.ty⟩
attribute [go_sem] rnb_tyF
def acBt(t:TypeId)(l:List Nat):List (Nat×Blk):=match l with|[]=>[]|_=>[(0,.ty t (nats .u8 l))]
theorem rtext_ok(l:List Nat)(hl:l.length≤1000000)(ok:Ten.okL l):PCall prog 133 [.fs (nats .i64 l) l.length] (.ret (.str (dec (Ten.valL l)))):=by
 refine PCall.wD (rs:=[.tmp 2]) [0,2,3,4,5,17,23,37] [] mixed (zh) (zg) call133 func133 rfl ntmps133 rfl ?_;simp only [go_sem];refine AXs.loop mixed (zh) (zg) (fun n:Nat=>[(0,.fs (nats .i64 l) l.length),(3,.int .i64 n)]) (fun _=>⟨[],0⟩) (fun n=>n≤l.length∧(0<l.length→0<n)∧∀ j,n≤j→l.getD j 0=0) (fun n=>n) l.length (by kernel_rfl) ⟨Ye _,fun h=>h,fun j hj=>za6 _ _ _ hj⟩ (Sub.of0 [] rfl rfl ?_ ?_) ?_
 ·simp only [go_sem]
 ·simp only [go_sem]
 rintro n ⟨h1,h1',h2⟩;have fin:(n≤1∨l.getD (n - 1) 0≠0)→0<n→(l.take n).reverse.map dg=dec (Ten.valL l):=fun c d=>ten_text ok h1 h2 c d;rcases YD n with rfl|h0
 ·obtain rfl:l=[]:=Yr (by omega);simp (disch:=first|assumption|(push_cast<;>omega)|rfl|omega) only [go_sem];refine AXa.go mixed (zh) (zg) (by kernel_rfl) ?_;simp only [go_sem];refine AXs.loop mixed (zh) (zg) (fun _:Nat=>[(0,.fs [] 0),(4,.nilS),(5,.int .i64 (-1))]) (fun _=>⟨[],0⟩) (fun n=>n=0) (fun n=>0) 0 (by kernel_rfl) rfl (Sub.of0 [] rfl rfl ?_ ?_) ?_
  ·simp only [go_sem];intro x hx;cases hx
  ·simp only [go_sem]
  rintro _ rfl;simp (disch:=first|assumption|(push_cast<;>omega)|rfl|omega) only [go_sem];refine AXa.go mixed (zh) (zg) (by kernel_rfl) ?_;simp only [go_sem];all_goals first|rfl|(intro x hx;cases hx)
 have hx:nthV (nats .i64 (l.drop (n - 1))) 0=.int .i64 (l.getD (n - 1) 0:Nat):=by rw [zft _ _ _ (by simp;omega)];simp
 simp (disch:=first|assumption|(push_cast<;>omega)|rfl|omega) only [go_sem,hx]
 (repeat refine sdC ?_);have hb:(decide (1<(n:Int))&&decide (((l.getD (n - 1) 0:Nat):Int)=0))=decide (1<n∧l.getD (n - 1) 0=0):=by
  have e1:1<(n:Int)↔1<n:=by omega
  have e2:((l.getD (n - 1) 0:Nat):Int)=0↔l.getD (n - 1) 0=0:=by omega
  simp only [e1,e2,Bool.decide_and]
 rw [hb];refine AXc.introP (fun h3=>?_) (fun h3=>?_)
 ·simp (disch:=first|assumption|(push_cast<;>omega)|rfl|omega) only [go_sem];refine zi (n - 1) ⟨by omega,fun _=>by omega,fun j hj=>?_⟩ (by omega) (Sub.of0 [] rfl rfl ?_ ?_)
  ·by_cases hji:n≤j
   ·exact h2 j hji
   ·obtain rfl:j=n - 1:=by omega
    exact h3.2
  ·simp only [go_sem];simp only [V.int.injEq,Yan];omega
  ·simp only [go_sem]
 simp (disch:=first|assumption|(push_cast<;>omega)|rfl|omega) only [go_sem];have h3':n≤1∨l.getD (n - 1) 0≠0:=by
  by_cases e:n≤1
  ·exact .inl e
  ·exact .inr fun e'=>h3 ⟨by omega,e'⟩
 refine AXa.go mixed (zh) (zg) (by kernel_rfl) ?_;simp only [go_sem];refine AXs.loop mixed (zh) (zg) (fun m:Nat=>[(0,.fs (nats .i64 l) l.length),(4,acV (accT l n m)),(5,.int .i64 ((m:Int) - 1))]) (fun m=>⟨acBt 5 (accT l n m),acN (accT l n m)⟩) (fun m=>m≤n) (fun m=>m) n (by kernel_rfl) (Ye _) (Sub.of0 [] rfl ?_ ?_ ?_) ?_
 ·rw [zBS];rfl
 ·simp (disch:=first|assumption|(push_cast<;>omega)|rfl|omega) only [go_sem,zBS,acV]
 ·simp only [go_sem,zBS,acBt]
 intro m hm;have hl':=accT_len l n m h1;simp only [go_sem];rcases YD m with rfl|hm0
 ·simp only [go_sem];have hlt:=fin h3' h0;have he:accT l n 0=(l.take n).reverse.map (48+·):=by simp [accT]
  have hb:=ze9 (l:=(l.take n).reverse) fun d hd=>ok d (Ybh (List.mem_reverse.1 hd));rw [←he,hlt]at hb;generalize accT l n 0=w at hl' hb ⊢;rcases w with _|⟨d,w⟩
  ·simp at hl';omega
  simp only [go_sem,acV,acBt,acN];refine AXa.go mixed (zh) (zg) (by kernel_rfl) ?_;have c3:decide (((w.length+1:Nat):Int)=0)=false:=Yy (by omega);have hcv:∀ P:Program,P=prog→zdn P 197 9 (.sl 0 0 (w.length+1) 1 none) ⟨[(0,.ty 5 (nats .u8 (d::w)))],1⟩=⟨True,.str (dec (Ten.valL l)),⟨[(0,.ty 5 (nats .u8 (d::w)))],1⟩,[0],[]⟩:=by rintro _ rfl;exact zjS 197 9 5 _ (nats .u8 (d::w)) (w.length+1) [0] _ (by kernel_rfl) (by kernel_rfl) (by kernel_rfl) (by show (if _∧_ then some _ else none)=_;rw [Yf ⟨rfl,by simp [nats]⟩];simp [nats,Yj]) hb
  simp (disch:=first|assumption|(push_cast<;>omega)|rfl|omega) only [go_sem,hb,c3,hcv]
 ·have hdr:=zBR l n (m - 1) (by omega) h1;rw [Nat.sub_add_cancel hm0]at hdr;have c1:decide (0≤(m:Int) - 1)=true:=YB (by omega);have c2:((m:Int) - 1).toNat=m - 1:=by omega
  have hd9:l.getD (m - 1) 0≤9:=zcX ok _;generalize accT l n m=w at hdr hl' ⊢;rcases w with _|⟨d,w⟩
  ·simp (disch:=first|assumption|(push_cast<;>omega)|rfl|omega) only [go_sem,acV,acBt,acN,c1,c2]
   (repeat refine sdC ?_);refine zi (m - 1) (by omega) (by omega) (Sub.of0 [(0,1)] rfl (by rw [hdr];rfl) ?_ ?_)
   ·rw [hdr];simp only [go_sem,acV,acBt,acN];simp only [V.int.injEq,Yan];omega
   ·rw [hdr];simp only [go_sem,acV,acBt,acN];simp [nats]
  ·have hll:w.length+1=n - m:=hl';simp (disch:=first|assumption|(push_cast<;>omega)|rfl|omega) only [go_sem,acV,acBt,acN,c1,c2]
   (repeat refine sdC ?_);refine zi (m - 1) (by omega) (by omega) (Sub.of0 [(0,2)] rfl (by rw [hdr];rfl) ?_ ?_)
   ·rw [hdr];simp only [go_sem,acV,acBt,acN];simp;omega
   ·rw [hdr];simp only [go_sem,acV,acBt,acN];simp [nats]
noncomputable def znM:List V→Option PR:=zu (fun l:List Nat=>[.fs (nats .i64 l) l.length]) (fun l=>l.length≤1000000∧Ten.okL l) fun l=>.ret (.str (dec (Ten.valL l)))
theorem zfN(l:List Nat)(n:Nat)(hn:n=l.length)(h:l.length≤1000000)(ok:Ten.okL l):znM [.fs (nats .i64 l) n]=some (.ret (.str (dec (Ten.valL l)))):=by subst hn;exact zo (pat:=fun l:List Nat=>[V.fs (nats .i64 l) l.length]) (fun x y h=>by simp at h;exact zax h.1) l ⟨h,ok⟩
theorem zdm:∀ args r,znM args=some r→PCall prog 133 args r:=zn fun l h=>rtext_ok l h.1 h.2
attribute [go_sem] zfN
theorem rat_ok(l:List Nat)(i:Nat):PCall prog 131 [.fs (nats .i64 l) l.length,.int .i64 i] (.ret (.int .i64 (l.getD i 0:Nat))):=by
 refine PCall.wD (rs:=[.tmp 4]) [0,1,4,8] [] mixed (zh) (zg) call131 func131 rfl ntmps131 rfl ?_;simp only [go_sem];refine AXc.introP (fun h=>?_) (fun h=>?_)
 ·have hx:nthV (nats .i64 (l.drop i)) 0=.int .i64 (l.getD i 0:Nat):=by
   rw [zft _ _ _ (by simp;omega)];simp
  simp (disch:=first|exact Zq|fail) only [go_sem,hx]
  (repeat refine sdC ?_)
  omega
 ·have e:l.getD i 0=0:=za6 _ _ _ (by omega);simp (disch:=first|exact Zq|fail) only [go_sem,e]
noncomputable def cRAt:List V→Option PR:=zu (fun p:List Nat×Nat=>[.fs (nats .i64 p.1) p.1.length,.int .i64 p.2]) (fun _=>True) fun p=>.ret (.int .i64 (p.1.getD p.2 0:Nat))
theorem cRAt_eq(l:List Nat)(n:Nat)(hn:n=l.length)(i:Nat):cRAt [.fs (nats .i64 l) n,.int .i64 i]=some (.ret (.int .i64 (l.getD i 0:Nat))):=by subst hn;exact zo (pat:=fun p:List Nat×Nat=>[V.fs (nats .i64 p.1) p.1.length,.int .i64 p.2]) (fun x y h=>by simp at h;exact YT (zax h.1.1) (by omega)) (l,i) trivial
theorem zeo:∀ args r,cRAt args=some r→PCall prog 131 args r:=zn fun p _=>rat_ok p.1 p.2
attribute [go_sem] cRAt_eq
theorem zoW(n:Nat):PCall prog 132 [.str (dec n)] (.ret (limV n)):=by
 refine PCall.wD (rs:=[.tmp 2,.tmp 3]) [0,2,3,6] [] mixed (zh) (zg) call132 func132 rfl ntmps132 rfl ?_;simp (disch:=first|exact Zq|fail) only [go_sem];refine AXc.introP (fun h1=>?_) (fun h1=>?_)
 ·have:1000<(dec n).length:=by omega
  simp only [go_sem,limV,this]
 ·have:¬1000<(dec n).length:=by omega
  simp only [go_sem,limV,this]
theorem zS {m n:Nat}(h:dec m=dec n):m=n:=by rw [←zab m,h,zab]
noncomputable def znP:List V→Option PR:=zu (fun n:Nat=>[.str (dec n)]) (fun _=>True) fun n=>.ret (limV n)
theorem znO(n:Nat):znP [.str (dec n)]=some (.ret (limV n)):=zo (pat:=fun n:Nat=>[V.str (dec n)]) (fun x y h=>by simp at h;exact zS h) n trivial
theorem zc1:∀ args r,znP args=some r→PCall prog 132 args r:=zn fun n _=>zoW n
attribute [go_sem] znO
theorem zo3(a b:List UInt8)(ha:dec (valD a)=a)(hb:dec (valD b)=b)(hl:a.length≤1000000):PCall prog 134 [.str a,.str b] (.ret (.int .i64 (cmpI (valD a) (valD b)))):=by
 refine PCall.wD (rs:=[.tmp 4]) [0,1,4,5,10,15,19,28,35] [] mixed (zh) (zg) call134 func134 rfl ntmps134 rfl ?_;have da:a.all zaV=true:=by rw [←ha];exact zcq _
 have db:b.all zaV=true:=by rw [←hb];exact zcq _
 simp only [go_sem];refine AXc.introN (fun h=>?_) (fun h=>?_)
 ·simp only [go_sem];refine AXc.introP (fun h1=>?_) (fun h1=>?_)
  ·have:valD a<valD b:=zdM (by rw [ha,hb];omega);simp only [go_sem];simp [cmpI,this]
  ·have:valD b<valD a:=zdM (by rw [ha,hb];omega);have:¬valD a<valD b:=by omega
   simp only [go_sem];simp [cmpI, *]
 have hle:a.length=b.length:=by omega
 simp only [go_sem];refine AXs.loop mixed (zh) (zg) (fun i:Nat=>[(0,.str a),(1,.str b),(5,.int .i64 i)]) (fun _=>⟨[],0⟩) (fun i=>i≤a.length∧a.take i=b.take i) (fun i=>a.length - i) 0 (by kernel_rfl) (by simp) (Sub.of0 [] rfl rfl ?_ ?_) ?_
 ·simp only [go_sem]
 ·simp only [go_sem]
 rintro i ⟨h1,h2⟩;simp only [go_sem];refine AXc.introP (fun h3=>?_) (fun h3=>?_)
 ·simp (disch:=first|exact Zq|fail) only [go_sem]
  (repeat refine sdC ?_);refine AXc.introN (fun h4=>?_) (fun h4=>?_)
  ·simp (disch:=first|exact Zq|fail) only [go_sem]
   (repeat refine sdC ?_);refine AXc.introP (fun h5=>?_) (fun h5=>?_)
   ·have:valD a<valD b:=zjf da db hle (by omega) h2 (Ya9.2 (by omega));simp only [go_sem];simp [cmpI,this]
   ·have:valD b<valD a:=zjf db da hle.symm (by omega) h2.symm (Ya9.2 (by omega));have:¬valD a<valD b:=by omega
    simp only [go_sem];simp [cmpI, *]
  ·simp (disch:=first|exact Zq|fail) only [go_sem];refine zi (i+1) ⟨by omega,?_⟩ (by omega) (Sub.of0 [] rfl rfl ?_ ?_)
   ·have:a.getD i 0=b.getD i 0:=YaW.1 (by omega);have e:a[i]? =b[i]? :=by rw [Ya,Ya]at this;rw [Yb (by omega),Yb (by omega)]at this ⊢;exact Ya6 some this
    rw [Ya8,Ya8,h2,e]
   ·simp only [go_sem];simp
   ·simp only [go_sem]
 ·simp only [go_sem];refine AXa.go mixed (zh) (zg) (by kernel_rfl) ?_;simp only [go_sem];have:a=b:=by rw [←Yj (l:=a) (i:=i) (by omega),h2,Yj (by omega)]
  subst this;simp [cmpI]
noncomputable def zen:List V→Option PR:=zu (fun p:List UInt8×List UInt8=>[.str p.1,.str p.2]) (fun p=>dec (valD p.1)=p.1∧dec (valD p.2)=p.2∧p.1.length≤1000000) fun p=>.ret (.int .i64 (cmpI (valD p.1) (valD p.2)))
theorem zc2(a b:List UInt8)(ha:dec (valD a)=a)(hb:dec (valD b)=b)(hl:a.length≤1000000):zen [.str a,.str b]=some (.ret (.int .i64 (cmpI (valD a) (valD b)))):=zo (pat:=fun p:List UInt8×List UInt8=>[.str p.1,.str p.2]) (fun x y h=>by simp at h;exact YT h.1 h.2) (a,b) ⟨ha,hb,hl⟩
theorem zem:∀ args r,zen args=some r→PCall prog 134 args r:=zn fun p h=>zo3 p.1 p.2 h.1 h.2.1 h.2.2
attribute [go_sem] zc2
theorem zal {a:List UInt8}(h:zD a=true):dec (valD a)=a:=(validN_iff.1 h).1.1
theorem rCmp_ok(a b:List UInt8):PCall prog 87 [.str a,.str b] (.ret (.int .i64 (cmpV a b))):=by
 refine PCall.wD (rs:=[.tmp 4]) [0,1,4,12] [] mixed (zf zaR (zf zem zh)) (zg) call87 func87 rfl ntmps87 rfl ?_;by_cases ha:zD a=true
 case neg=>simp only [go_sem,cmpV,ha]
 by_cases hb:zD b=true
 case neg=>simp only [go_sem,cmpV,ha,hb]
 have la:=zL ha;have ea:=zal ha;have eb:=zal hb;simp (disch:=first|exact Zq|fail) only [go_sem,cmpV,ha,hb]
theorem rless_ok(x y:List Nat)(hx:Ten.okL x)(hy:Ten.okL y)(hl:x.length≤100000)(hy':y.length≤100000):PCall prog 135 [.fs (nats .i64 x) x.length,.fs (nats .i64 y) y.length] (.ret (.fs (nats .i64 (Ten.eachR Ten.minusF x y x.length).1) x.length)):=by
 refine PCall.wD (rs:=[.tmp 4]) [0,1,4,5,6,7,8,12,25] [] mixed (zf zeo zh) (zg) call135 func135 rfl ntmps135 rfl ?_;simp only [go_sem];refine AXs.loop mixed (zf zeo zh) (zg) (fun i:Nat=>[(0,.fs (nats .i64 x) x.length),(1,.fs (nats .i64 y) y.length),(5,acV (Ten.eachR Ten.minusF x y i).1),(6,.int .i64 (Ten.eachR Ten.minusF x y i).2),(7,.int .i64 i)]) (fun i=>⟨acBs .i64 (Ten.eachR Ten.minusF x y i).1,acN (Ten.eachR Ten.minusF x y i).1⟩) (fun i=>i≤x.length) (fun i=>x.length - i) 0 (by kernel_rfl) (by simp) (Sub.of0 [] rfl rfl ?_ ?_) ?_
 ·simp only [go_sem,Ten.eachR,acV]
 ·simp only [go_sem,Ten.eachR,acBs]
 intro i h1;have hc:=Ten.minus_carry x y i;have hlen:=Ten.eachR_len Ten.minusF x y i;simp only [go_sem];refine AXc.introP (fun h3=>?_) (fun h3=>?_)
 ·have h9x:x.getD i 0≤9:=zcX hx i;have h9y:y.getD i 0≤9:=zcX hy i;have hs:(Ten.eachR Ten.minusF x y (i+1))=((Ten.eachR Ten.minusF x y i).1++[(zt3 (x.getD i 0) (y.getD i 0) (Ten.eachR Ten.minusF x y i).2).1],(zt3 (x.getD i 0) (y.getD i 0) (Ten.eachR Ten.minusF x y i).2).2):=by rw [lessF_eq (by omega) (by omega) hc];rfl
  generalize (Ten.eachR Ten.minusF x y i)=wc at hc hlen hs ⊢;obtain⟨w,c⟩:=wc;dsimp only at hc hlen hs ⊢;obtain⟨p,hp⟩:∃ p,x.getD i 0=p:=⟨_,rfl⟩;obtain⟨q,hq⟩:∃ q,y.getD i 0=q:=⟨_,rfl⟩;rw [hp]at h9x hs;rw [hq]at h9y hs;simp (disch:=first|exact Zq|fail) only [go_sem,hp,hq];refine AXc.introP (fun h4=>?_) (fun h4=>?_)
  ·have e:zt3 p q c=(p+10 - q - c,1):=Yf (by omega);have e2:((p+10 - q - c:Nat):Int)=p - q - c+10:=by omega
   rw [e]at hs;simp (disch:=first|exact Zq|fail) only [go_sem];rcases w with _|⟨d,w⟩
   ·simp (disch:=first|exact Zq|fail) only [go_sem,acV,acBs,acN]
    (repeat refine sdC ?_);refine zi (i+1) (by omega) (by omega) (Sub.of0 [(0,1)] rfl (by rw [hs];rfl) ?_ ?_)
    ·rw [hs];simp only [go_sem,acV,acBs,acN,e2];simp
    ·rw [hs];simp only [go_sem,acV,acBs,acN,e2];simp [nats,e2]
   ·simp (disch:=first|exact Zq|fail) only [go_sem,acV,acBs,acN];have hll:w.length+1=i:=hlen
    (repeat refine sdC ?_);refine zi (i+1) (by omega) (by omega) (Sub.of0 [(0,2)] rfl (by rw [hs];rfl) ?_ ?_)
    ·rw [hs];simp only [go_sem,acV,acBs,acN,e2];simp
    ·rw [hs];simp only [go_sem,acV,acBs,acN,e2];simp [nats,e2]
  ·have e:zt3 p q c=(p - q - c,0):=Yd (by omega);have e2:((p - q - c:Nat):Int)=p - q - c:=by omega
   rw [e]at hs;rcases w with _|⟨d,w⟩
   ·simp (disch:=first|exact Zq|fail) only [go_sem,acV,acBs,acN]
    (repeat refine sdC ?_);refine zi (i+1) (by omega) (by omega) (Sub.of0 [(0,1)] rfl (by rw [hs];rfl) ?_ ?_)
    ·rw [hs];simp only [go_sem,acV,acBs,acN,e2];simp
    ·rw [hs];simp only [go_sem,acV,acBs,acN,e2];simp [nats,e2]
   ·simp (disch:=first|exact Zq|fail) only [go_sem,acV,acBs,acN];have hll:w.length+1=i:=hlen
    (repeat refine sdC ?_);refine zi (i+1) (by omega) (by omega) (Sub.of0 [(0,2)] rfl (by rw [hs];rfl) ?_ ?_)
    ·rw [hs];simp only [go_sem,acV,acBs,acN,e2];simp
    ·rw [hs];simp only [go_sem,acV,acBs,acN,e2];simp [nats,e2]
 ·obtain rfl:i=x.length:=by omega
  simp only [go_sem];generalize (Ten.eachR Ten.minusF x y x.length).1=w at hlen ⊢;rw [←hlen];rcases w with _|⟨d,w⟩
  ·simp only [go_sem,acV,acBs,acN];refine AXa.go mixed (zf zeo zh) (zg) (by kernel_rfl) ?_;simp only [go_sem]
  ·simp only [go_sem,acV,acBs,acN];refine AXa.go mixed (zf zeo zh) (zg) (by kernel_rfl) ?_;simp only [go_sem];exact Frz.slp rfl rfl (by simp [zK]) (by simp [zbR]) (zat _ _)
noncomputable def zAD:List V→Option PR:=zu (fun p:List Nat×List Nat=>[.fs (nats .i64 p.1) p.1.length,.fs (nats .i64 p.2) p.2.length]) (fun p=>Ten.okL p.1∧Ten.okL p.2∧p.1.length≤100000∧p.2.length≤100000) fun p=>.ret (.fs (nats .i64 (Ten.eachR Ten.minusF p.1 p.2 p.1.length).1) p.1.length)
theorem znR(x y:List Nat)(m n:Nat)(hm:m=x.length)(hn:n=y.length)(hx:Ten.okL x)(hy:Ten.okL y)(hl:x.length≤100000)(hl':y.length≤100000):zAD [.fs (nats .i64 x) m,.fs (nats .i64 y) n]=some (.ret (.fs (nats .i64 (Ten.eachR Ten.minusF x y m).1) m)):=by subst hm hn;exact zo (pat:=fun p:List Nat×List Nat=>[V.fs (nats .i64 p.1) p.1.length,.fs (nats .i64 p.2) p.2.length]) (fun x y h=>by simp at h;exact YT (zax h.1.1) (zax h.2.1)) (x,y) ⟨hx,hy,hl,hl'⟩
theorem znQ:∀ args r,zAD args=some r→PCall prog 135 args r:=zn fun p h=>rless_ok p.1 p.2 h.1 h.2.1 h.2.2.1 h.2.2.2
attribute [go_sem] znR
theorem rSub_ok(a b:List UInt8):PCall prog 88 [.str a,.str b] (.ret (subV a b)):=by
 refine PCall.wD (rs:=[.tmp 4,.tmp 5]) [0,1,4,5,13,17] [] mixed (zf zaR (zf zem (zf zb7 (zf znQ (zf zdm zh))))) (zg) call88 func88 rfl ntmps88 rfl ?_;by_cases ha:zD a=true
 case neg=>simp only [go_sem,subV,ha,errV]
 by_cases hb:zD b=true
 case neg=>simp only [go_sem,subV,ha,hb,errV]
 have la:=zL ha;have lb:=zL hb;have ea:=zal ha;have eb:=zal hb;have da:=zW ha;have db:=zW hb;have ka:=zcw a;have kb:=zcw b;have oa:=zek da;have ob:=zek db;have va:=zc0 a;have vb:=zc0 b;by_cases h:valD a<valD b
 ·have e:cmpI (valD a) (valD b)= -1:=by simp [cmpI,h]
  simp (disch:=first|exact Zq|fail) only [go_sem,subV,ha,hb,h,errV,e]
 ·have e:decide (cmpI (valD a) (valD b)<0)=false:=by
   simp only [cmpI];split
   ·omega
   ·split<;>rfl
  have hle:Ten.valL (digD b)≤Ten.valL (digD a):=by omega
  have hlen:b.length≤a.length:=Y6 fun hlt=>h (zdM (by rw [ea,eb];exact hlt))
  obtain⟨h1,h2⟩:=zrt oa ob (by omega) hle
  have h3:=Ten.eachR_len Ten.minusF (digD a) (digD b) (digD a).length
  rw [va,vb]at h1
  rw [ka]at h1 h2 h3
  have ka':=ka.symm
  have kb':=kb.symm
  have h3':=h3.symm
  simp (disch:=first|exact Zq|fail) only [go_sem,subV,ha,hb,h,e,h1]
theorem zeM {x y:List Nat}(hx:Ten.okL x)(hy:Ten.okL y):∀ i,(Ten.eachR Ten.plusF x y i).2≤1
 |0=>by simp [Ten.eachR]
 |i+1=>by have ih:=zeM hx hy i;have h1:=zcX hx i;have h2:=zcX hy i;show (_+_+_) / 10≤1;omega
theorem rAdd_ok(a b:List UInt8):PCall prog 86 [.str a,.str b] (.ret (addV a b)):=by
 refine PCall.wD (rs:=[.tmp 4,.tmp 5]) [0,1,4,5,6,7,8,9,10,11,19,33] [] mixed (zf zaR (zf zb7 (zf zeo (zf zdm (zf zc1 zh))))) (zg) call86 func86 rfl ntmps86 rfl ?_;by_cases ha:zD a=true
 case neg=>simp only [go_sem,addV,ha,errV]
 by_cases hb:zD b=true
 case neg=>simp only [go_sem,addV,ha,hb,errV]
 have la:=zL ha;have lb:=zL hb;have da:=zW ha;have db:=zW hb;have ka:=(zcw a).symm;have kb:=(zcw b).symm;have oa:=zek da;have ob:=zek db;have va:=zc0 a;have vb:=zc0 b;simp (disch:=first|exact Zq|fail) only [go_sem,ha,hb];rw [ka,kb];have la':(digD a).length≤1000:=by omega
 have lb':(digD b).length≤1000:=by omega
 have goalV:addV a b=limV (Ten.valL (digD a)+Ten.valL (digD b)):=by simp only [addV,ha,hb,va,vb,YbU,if_true]
 rw [goalV];generalize digD a=x at oa la' ⊢;generalize digD b=y at ob lb' ⊢;refine AXs.loop mixed ((zf zaR (zf zb7 (zf zeo (zf zdm (zf zc1 zh)))))) (zg) (fun i:Nat=>[(6,.fs (nats .i64 x) x.length),(7,.fs (nats .i64 y) y.length),(8,acV (Ten.eachR Ten.plusF x y i).1),(9,.int .i64 (Ten.eachR Ten.plusF x y i).2),(10,.int .i64 i)]) (fun i=>⟨acBs .i64 (Ten.eachR Ten.plusF x y i).1,acN (Ten.eachR Ten.plusF x y i).1⟩) (fun i=>i≤max x.length y.length+1) (fun i=>max x.length y.length+1 - i) 0 (by kernel_rfl) (by simp) (Sub.of0 [] rfl rfl ?_ ?_) ?_
 ·simp only [go_sem,Ten.eachR,acV]
 ·simp only [go_sem,Ten.eachR,acBs]
 intro i h1;have hc:=zeM oa ob i;have hlen:=Ten.eachR_len Ten.plusF x y i;obtain⟨sv,ev,hse⟩:=zg4 (Ten.valL x+Ten.valL y);simp only [go_sem];refine AXc.intro (fun h3=>?_) (fun h3=>?_)
 ·have h3':i<max x.length y.length+1:=by
   simp only [Yae,Yh]at h3;omega
  have h9x:x.getD i 0≤9:=zcX oa i
  have h9y:y.getD i 0≤9:=zcX ob i
  have hs:(Ten.eachR Ten.plusF x y (i+1))=((Ten.eachR Ten.plusF x y i).1++[(x.getD i 0+y.getD i 0+(Ten.eachR Ten.plusF x y i).2) % 10],(x.getD i 0+y.getD i 0+(Ten.eachR Ten.plusF x y i).2) / 10):=rfl
  generalize (Ten.eachR Ten.plusF x y i)=wc at hc hlen hs ⊢
  obtain⟨w,c⟩:=wc
  dsimp only at hc hlen hs ⊢
  obtain⟨p,hp⟩:∃ p,x.getD i 0=p:=⟨_,rfl⟩
  obtain⟨q,hq⟩:∃ q,y.getD i 0=q:=⟨_,rfl⟩
  rw [hp]at h9x hs
  rw [hq]at h9y hs
  have e1:Int.tmod ((p:Int)+q+c) 10=((p+q+c) % 10:Nat):=by rw [show (p:Int)+q+c=(p+q+c:Nat)by omega];rfl
  have e2:Int.tdiv ((p:Int)+q+c) 10=((p+q+c) / 10:Nat):=by rw [show (p:Int)+q+c=(p+q+c:Nat)by omega];rfl
  rcases w with _|⟨d,w⟩
  ·simp (disch:=first|exact Zq|fail) only [go_sem,acV,acBs,acN,hp,hq,e1,e2]
   (repeat refine sdC ?_);refine zi (i+1) (by omega) (by omega) (Sub.of0 [(0,1)] rfl (by rw [hs];rfl) ?_ ?_)
   ·rw [hs];simp only [go_sem,acV,acBs,acN];simp
   ·rw [hs];simp only [go_sem,acV,acBs,acN];simp [nats]
  ·simp (disch:=first|exact Zq|fail) only [go_sem,acV,acBs,acN,hp,hq,e1,e2];have hll:w.length+1=i:=hlen
   (repeat refine sdC ?_);refine zi (i+1) (by omega) (by omega) (Sub.of0 [(0,2)] rfl (by rw [hs];rfl) ?_ ?_)
   ·rw [hs];simp only [go_sem,acV,acBs,acN];simp
   ·rw [hs];simp only [go_sem,acV,acBs,acN];simp [nats]
 ·have h3':i=max x.length y.length+1:=by
   simp only [YcB,YS]at h3;omega
  obtain⟨h4,h5⟩:=add_val (n:=i) oa ob (by omega) (by omega)
  generalize (Ten.eachR Ten.plusF x y i)=wc at hc hlen h4 h5 ⊢
  obtain⟨w,c⟩:=wc
  dsimp only at hc hlen h4 h5 ⊢
  rcases w with _|⟨d,w⟩
  ·simp at hlen;omega
  simp only [go_sem,acV,acBs,acN]
  refine AXa.go mixed (zf zaR (zf zb7 (zf zeo (zf zdm (zf zc1 zh))))) (zg) (by kernel_rfl) ?_
  have ht:(d::w).take (w.length+1)=d::w:=Yj (Ye _)
  have h6:(d::w).length≤1000000:=by omega
  have h7:znM [.fs (nats .i64 (d::w)) (w.length+1)]=some (.ret (.str (dec (Ten.valL x+Ten.valL y)))):=by rw [←h4];exact zfN _ _ rfl h6 h5
  simp (disch:=first|exact Zq|fail) only [go_sem,ht,h7,hse]
theorem rMul_ok(a b:List UInt8):PCall prog 89 [.str a,.str b] (.ret (mulV a b)):=by
 have hΓ:=zf zaR (zf zb7 (zf zeo (zf zdm (zf zc1 zh))));refine PCall.wD (rs:=[.tmp 4,.tmp 5]) [0,1,4,5,6,7,8,9,10,11,12,20,35,41] [] mixed (hΓ) (zg) call89 func89 rfl ntmps89 rfl ?_;by_cases ha:zD a=true
 case neg=>simp only [go_sem,mulV,ha,errV]
 by_cases hb:zD b=true
 case neg=>simp only [go_sem,mulV,ha,hb,errV]
 have la:=zL ha;have lb:=zL hb;have da:=zW ha;have db:=zW hb;have ka:=(zcw a).symm;have kb:=(zcw b).symm;have ox:=zek da;have oy:=zek db;have va:=zc0 a;have vb:=zc0 b;have goalV:mulV a b=limV (Ten.valL (digD a)*Ten.valL (digD b)):=by simp only [mulV,ha,hb,va,vb,YbU,if_true]
 rw [goalV];have hc1:zeJ [.str a]=some (.ret (.fs (nats .i64 (digD a)) (digD a).length)):=by rw [←ka];exact zcN a da (by omega)
 have hc2:zeJ [.str b]=some (.ret (.fs (nats .i64 (digD b)) (digD b).length)):=by rw [←kb];exact zcN b db (by omega)
 have la':(digD a).length≤1000:=by omega
 have lb':(digD b).length≤1000:=by omega
 simp (disch:=first|exact Zq|fail) only [go_sem,ha,hb,hc1,hc2];clear goalV va vb hc1 hc2 ka kb;generalize digD a=x at*;generalize digD b=y at*;obtain⟨s,e,hse⟩:=zg4 (Ten.valL x*Ten.valL y);simp (disch:=first|exact Zq|fail) only [go_sem,zke,zlt];refine⟨by omega,?_⟩;refine AXs.loop mixed (hΓ) (zg) (fun(p:Nat×List Nat)=>[(6,.fs (nats .i64 x) x.length),(7,.fs (nats .i64 y) y.length),(8,.sl 0 0 (x.length+y.length+1) 1 (some (x.length+y.length+1))),(9,.int .i64 p.1)]) (fun p=>⟨[(0,.cells (nats .i64 p.2))],1⟩)
  (fun p=>p.1≤x.length∧Ten.mulOut x y p.1 p.2) (fun p=>x.length - p.1) (0,List.replicate (x.length+y.length+1) 0) (by kernel_rfl) ⟨Yk _,Ten.mul_start x y⟩ (Sub.of0 [] rfl rfl ?_ ?_) ?_
 ·simp only [go_sem]
 ·simp only [go_sem]
 rintro⟨i,l0⟩ ⟨hi,ho⟩;dsimp only at hi ho ⊢;simp (disch:=first|exact Zq|fail) only [go_sem];refine AXc.introP (fun h1=>?_) (fun h1=>?_)
 ·have hix:i<x.length:=by omega
  simp (disch:=first|exact Zq|fail) only [go_sem];refine AXs.loop mixed (hΓ) (zg) (fun(p:Nat×List Nat×Nat)=>[(6,.fs (nats .i64 x) x.length),(7,.fs (nats .i64 y) y.length),(8,.sl 0 0 (x.length+y.length+1) 1 (some (x.length+y.length+1))),(9,.int .i64 i),(10,.int .i64 p.2.2),(11,.int .i64 p.1)]) (fun p=>⟨[(0,.cells (nats .i64 p.2.1))],1⟩)
   (fun p=>p.1≤y.length+1∧Ten.mulInv x y i (Ten.valL l0) p.1 p.2.1 p.2.2) (fun p=>y.length+1 - p.1) (0,l0,0) (by kernel_rfl) ⟨Yk _,Ten.mul_row ho⟩ (Sub.of0 [] rfl rfl ?_ ?_) ?_
  ·simp only [go_sem]
  ·simp only [go_sem]
  rintro⟨k,l,c⟩ ⟨hk,hv⟩;dsimp only at hk hv ⊢;have hl:=hv.1;have hkl:=hv.2.1;have hcl:=hv.2.2.1;simp (disch:=first|exact Zq|fail) only [go_sem];refine AXc.introP (fun h2=>?_) (fun h2=>?_)
  ·have hky:k≤y.length:=by omega
   have hst:=Ten.mul_step ox oy hix hky hv;have hpl:=Ten.mulP_lt (i:=i) (k:=k) ox oy hkl hcl;have hgl:=zcX hkl (i+k);have hm:(x.getD i 0:Int)*(y.getD k 0:Int)=((x.getD i 0*y.getD k 0:Nat):Int):=by simp
   have hp1:Ten.mulP x y i k l c=l.getD (i+k) 0+c+x.getD i 0*y.getD k 0:=rfl;generalize x.getD i 0*y.getD k 0=q at*;have e1:Int.tmod ((l.getD (i+k) 0:Nat)+(q:Int)+c) 10=(Ten.mulP x y i k l c % 10:Nat):=by rw [hp1,show ((l.getD (i+k) 0:Nat):Int)+(q:Int)+c=(l.getD (i+k) 0+c+q:Nat)by omega];rfl
   have e2:Int.tdiv ((l.getD (i+k) 0:Nat)+(q:Int)+c) 10=(Ten.mulP x y i k l c / 10:Nat):=by rw [hp1,show ((l.getD (i+k) 0:Nat):Int)+(q:Int)+c=(l.getD (i+k) 0+c+q:Nat)by omega];rfl
   simp (disch:=first|exact Zq|fail) only [go_sem,hm];refine⟨⟨by omega,by omega⟩,by omega,⟨by omega,by omega⟩,by omega,AXk.intro (by kernel_rfl) ?_⟩;simp (disch:=first|exact Zq|fail) only [go_sem,e1,e2]
   (repeat refine sdC ?_);refine zi (k+1,l.set (i+k) (Ten.mulP x y i k l c % 10),Ten.mulP x y i k l c / 10) ⟨by omega,hst⟩ (by dsimp only;omega) (Sub.of0 [] rfl rfl ?_ ?_)
   ·simp only [go_sem];simp
   ·simp only [go_sem]
  ·have hke:k=y.length+1:=by omega
   subst hke;have hen:=Ten.mul_end ho hv;simp (disch:=first|exact Zq|fail) only [go_sem];refine AXa.go mixed (hΓ) (zg) (by kernel_rfl) ?_;simp (disch:=first|exact Zq|fail) only [go_sem];refine zi (i+1,l) ⟨by omega,hen⟩ (by dsimp only;omega) (Sub.of0 [] rfl rfl ?_ ?_)
   ·simp only [go_sem];simp
   ·simp only [go_sem]
 ·have hie:i=x.length:=by omega
  subst hie;have hll:=ho.1;have hmv:Ten.valL l0=Ten.valL x*Ten.valL y:=by rw [ho.2.2.1,YQ]
  have h7:znM [.fs (nats .i64 l0) (x.length+y.length+1)]=some (.ret (.str (dec (Ten.valL x*Ten.valL y)))):=by rw [←hmv];exact zfN _ _ hll.symm (by omega) ho.2.1
  have ht:l0.take (x.length+y.length+1)=l0:=Yj (by omega);simp only [go_sem];refine AXa.go mixed (hΓ) (zg) (by kernel_rfl) ?_;have hle:x.length+y.length+1≤l0.length:=by omega
  simp (disch:=first|exact Zq|fail) only [go_sem,h7,ht,hse,hle]
end Go.Proofs

namespace Go.Pl
theorem zaq {m n:Nat}(h:m≤n):(dec m).length≤(dec n).length:=Y6 fun hlt=>by have:=zdM hlt;omega
theorem zrP {r d:Nat}(hr:0<r)(hd:d<10):dec r++[dg d]=dec (10*r+d):=by
 rw [zdO (n:=10*r+d) (by omega)];have e1:(10*r+d) / 10=r:=by omega
 have e2:(10*r+d) % 10=d:=by omega
 rw [e1,e2];rfl
theorem zzH {d:Nat}(hd:d<10):[dg d]=dec (10*0+d):=by rw [YY,Yal,zbC hd];rfl
theorem dg_of {c:UInt8}(h:zaV c=true):dg (c.toNat - 48)=c:=by have:=zbE h;unfold dg;apply YaW.1;rw [UInt8.toNat_ofNat'];omega
theorem zrO:dec 0=[48]:=rfl
theorem dec_is_zero {n:Nat}:dec n=[48]↔n=0:=by
 constructor
 ·intro h;have:=Ya6 valD h;rw [zab]at this;exact this
 ·rintro rfl;rfl
theorem zwr {a:List UInt8}{i:Nat}(h:i<a.length):valD (a.take (i+1))=10*valD (a.take i)+((a.getD i 0).toNat - 48):=by
 have:a.take (i+1)=a.take i++[a.getD i 0]:=by rw [Ya8,Ya,Yb h];rfl
 rw [this,zbP]
theorem quo_step {V n d:Nat}(hn:0<n)(hd:d<10):(10*V+d) / n=10*(V / n)+(10*(V % n)+d) / n∧(10*V+d) % n=(10*(V % n)+d) % n∧(10*(V % n)+d) / n<10:=by
 have h:=Ya2 V n;have hm:=YaM V hn;have e:10*V+d=10*(V % n)+d+n*(10*(V / n)):=by rw [Nat.mul_left_comm];omega
 refine⟨?_,?_,?_⟩
 ·rw [e,Nat.add_mul_div_left _ _ hn];omega
 ·rw [e,Nat.add_mul_mod_self_left]
 ·exact(YaH hn).2 (by omega)
theorem quo_text {w:List Nat}{k:Nat}(ok:∀ d∈w,d<10)(hk:k<w.length)(hz:∀ j,j<k→w.getD j 0=0)(h1:k=w.length - 1∨w.getD k 0≠0):(w.drop k).map dg=dec (valD (w.map dg)):=by
 have key:∀(w:List Nat) (k:Nat),(∀ j,j<k→w.getD j 0=0)→valD (w.map dg)=valD ((w.drop k).map dg):=by
  intro w k;induction k generalizing w with
  |zero=>intro _;rfl
  |succ k ih=>
   intro hz;cases w with
   |nil=>rfl
   |cons d w=>have hd:d=0:=hz 0 (by omega);rw [List.drop_succ_cons, ←ih w fun j hj=>by simpa using hz (j+1) (by omega),hd,YM,zbQ];have:(dg 0).toNat - 48=0:=rfl;rw [this];omega
 rw [key w k hz];refine(zg7 ?_ ?_ ?_).symm
 ·exact zzE fun d hd=>ok d (Ybw hd)
 ·intro e;have:=Ya6 List.length e;simp at this;omega
 ·rcases h1 with h1|h1
  ·left;simp;omega
  ·right;have hlt:w.getD k 0<10:=by rw [Ya,Yb hk];exact ok _ (YZ _)
   have e:((w.drop k).map dg).getD 0 0=dg (w.getD k 0):=by rw [zik w k 0 hk];rfl
   rw [e];have:=zbx hlt;unfold dg;omega
end Go.Pl
