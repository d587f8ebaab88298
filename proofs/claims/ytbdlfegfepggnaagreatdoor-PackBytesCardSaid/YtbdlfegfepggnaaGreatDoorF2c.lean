/- The reference's natural numbers: contracts; comparison, single digits, the limit. -/
import Derived.Test.YtbdlfegfepggnaaGreatDoorQNat6
set_option linter.all false
set_option maxHeartbeats 16000000
set_option maxRecDepth 100000
noncomputable section
namespace Go.Proofs
open Tryz Go.Ab Go.Pl
def znM:ZV:=zC (fun l:ZN=>[.fs (nats .i64 l) l.length]) (fun l=>l.length≤1000000∧Ten.okL l) fun l=>.ret (.str (dec (Ten.valL l)))
def zfP(l:ZN)(n:Nat)(hn:n=l.length)(h:l.length≤1000000)(ok:Ten.okL l):znM [.fs (nats .i64 l) n]=some (.ret (.str (dec (Ten.valL l)))):=by subst hn;exact zo (pat:=fun l:ZN=>[V.fs (nats .i64 l) l.length]) (fun x y h=>by simp at h;exact zaI h.1) l ⟨h,ok⟩
def zdu:ZC znM 168:=zn fun l h=>rtext_ok l h.1 h.2
attribute [go_sem] zfP
def rat_ok(l:ZN)(i:Nat):PCall prog 166 [.fs (nats .i64 l) l.length,.int .i64 i] (.ret (.int .i64 (l.getD i 0:Nat))):=by
 refine Xc (rs:=[.tmp 4]) [0,1,4,8] [] mixed (zh) (zf) call166 func166 rfl ntmps166 rfl ?_;simp only[go_sem];refine Xb (fun h=>?_) (fun h=>?_)
 ·have hx:nthV (nats .i64 (l.drop i)) 0=.int .i64 (l.getD i 0:Nat):=by rw[zfz _ _ _ (by simp;omega)];simp
  simp(disch:=try exact Zq)only[go_sem,hx]
  (repeat refine sdC ?_);omega
 have e:l.getD i 0=0:=za2 _ _ _ Zo;simp(disch:=try exact Zq)only[go_sem,e]
def cRAt:ZV:=zC (fun p:ZN×Nat=>[.fs (nats .i64 p.1) p.1.length,.int .i64 p.2]) (fun _=>True) fun p=>.ret (.int .i64 (p.1.getD p.2 0:Nat))
def cRAt_eq(l:ZN)(n:Nat)(hn:n=l.length)(i:Nat):cRAt [.fs (nats .i64 l) n,.int .i64 i]=some (.ret (.int .i64 (l.getD i 0:Nat))):=by subst hn;exact zo (pat:=fun p:ZN×Nat=>[V.fs (nats .i64 p.1) p.1.length,.int .i64 p.2]) (fun x y h=>by simp at h;exact Yai (zaI h.1.1) Zo) (l,i) trivial
def zer:ZC cRAt 166:=zn fun p _=>rat_ok p.1 p.2
attribute [go_sem] cRAt_eq
def zoW(n:Nat):PCall prog 167 [.str (dec n)] (.ret (limV n)):=by
 refine Xc (rs:=[.tmp 2,.tmp 3]) [0,2,3,6] [] mixed (zh) (zf) call167 func167 rfl ntmps167 rfl ?_;simp(disch:=try exact Zq)only[go_sem];refine Xb (fun h1=>?_) (fun h1=>?_)
 ·have:1000<(dec n).length:=Zo;simp only[go_sem,limV,this]
 have:¬1000<(dec n).length:=Zo;simp only[go_sem,limV,this]
def zav {m n:Nat}(h:dec m=dec n):m=n:=by rw[←zan m,h,zan]
def znQ:ZV:=zC (fun n:Nat=>[.str (dec n)]) (fun _=>True) fun n=>.ret (limV n)
def znP(n:Nat):znQ [.str (dec n)]=some (.ret (limV n)):=zo (pat:=fun n:Nat=>[V.str (dec n)]) (fun x y h=>by simp at h;exact zav h) n trivial
def zc0:ZC znQ 167:=zn fun n _=>zoW n
attribute [go_sem] znP
def zo2(a b:ZL)(ha:dec (valD a)=a)(hb:dec (valD b)=b)(hl:a.length≤1000000):PCall prog 169 [.str a,.str b] (.ret (.int .i64 (cmpI (valD a) (valD b)))):=by
 refine Xc (rs:=[.tmp 4]) [0,1,4,5,10,15,19,28,35] [] mixed (zh) (zf) call169 func169 rfl ntmps169 rfl ?_;have da:a.all zaT=true:=by rw[←ha];exact zcO _
 have db:b.all zaT=true:=by rw[←hb];exact zcO _
 simp only[go_sem];refine Xk (fun h=>?_) (fun h=>?_)
 ·simp only[go_sem];refine Xb (fun h1=>?_) (fun h1=>?_)
  ·have:valD a<valD b:=zdQ (by rw[ha,hb];omega);simp only[go_sem];simp[cmpI,this]
  have:valD b<valD a:=zdQ (by rw[ha,hb];omega);have:¬valD a<valD b:=Zo;simp only[go_sem];simp[cmpI, *]
 have hle:a.length=b.length:=Zo;simp only[go_sem];refine AXs.loop mixed (zh) (zf) (fun i:Nat=>[(0,.str a),(1,.str b),(5,.int .i64 i)]) (fun _=>⟨[],0⟩) (fun i=>i≤a.length∧a.take i=b.take i) (fun i=>a.length-i) 0 Zk Zs (Xa [] rfl rfl ?_ ?_) ?_
 ·simp only[go_sem]
 ·simp only[go_sem]
 rintro i ⟨h1,h2⟩;simp only[go_sem];refine Xb (fun h3=>?_) (fun h3=>?_)
 ·simp(disch:=try exact Zq)only[go_sem]
  (repeat refine sdC ?_);refine Xk (fun h4=>?_) (fun h4=>?_)
  ·simp(disch:=try exact Zq)only[go_sem]
   (repeat refine sdC ?_);refine Xb (fun h5=>?_) (fun h5=>?_)
   ·have:valD a<valD b:=zjf da db hle Zo h2 (Ybq.2 Zo);simp only[go_sem];simp[cmpI,this]
   have:valD b<valD a:=zjf db da hle.symm Zo h2.symm (Ybq.2 Zo);have:¬valD a<valD b:=Zo;simp only[go_sem];simp[cmpI, *]
  simp(disch:=try exact Zq)only[go_sem];refine zi (i+1) ⟨Zo,?_⟩ Zo (Xa [] rfl rfl ?_ ?_)
  ·have:a.getD i 0=b.getD i 0:=YaY.1 Zo;have e:a[i]? =b[i]? :=by rw[Ya,Ya]at this;rw[Yb Zo,Yb Zo]at this ⊢;exact YaZ some this
   rw[YaG,YaG,h2,e]
  ·simp only[go_sem];simp
  simp only[go_sem]
 simp only[go_sem];refine AXa.go mixed (zh) (zf) Zk ?_;simp only[go_sem];have:a=b:=by rw[←Yl (l:=a) (i:=i) Zo,h2,Yl Zo]
 subst this;simp[cmpI]
def zeq:ZV:=zC (fun p:ZL×ZL=>[.str p.1,.str p.2]) (fun p=>dec (valD p.1)=p.1∧dec (valD p.2)=p.2∧p.1.length≤1000000) fun p=>.ret (.int .i64 (cmpI (valD p.1) (valD p.2)))
def zc1(a b:ZL)(ha:dec (valD a)=a)(hb:dec (valD b)=b)(hl:a.length≤1000000):zeq [.str a,.str b]=some (.ret (.int .i64 (cmpI (valD a) (valD b)))):=zo (pat:=fun p:ZL×ZL=>[.str p.1,.str p.2]) (fun x y h=>by simp at h;exact Yai h.1 h.2) (a,b) ⟨ha,hb,hl⟩
def zep:ZC zeq 169:=zn fun p h=>zo2 p.1 p.2 h.1 h.2.1 h.2.2
attribute [go_sem] zc1
def zaQ {a:ZL}(h:zH a=true):dec (valD a)=a:=(validN_iff.1 h).1.1
def rCmp_ok(a b:ZL):PCall prog 145 [.str a,.str b] (.ret (.int .i64 (cmpV a b))):=by
 refine Xc (rs:=[.tmp 4]) [0,1,4,12] [] mixed (zg za5 (zg zep zh)) (zf) call145 func145 rfl ntmps145 rfl ?_;by_cases ha:zH a=true
 case neg=>simp only[go_sem,cmpV,ha]
 by_cases hb:zH b=true
 case neg=>simp only[go_sem,cmpV,ha,hb]
 have la:=zW ha;have ea:=zaQ ha;have eb:=zaQ hb;simp(disch:=try exact Zq)only[go_sem,cmpV,ha,hb]
def rless_ok(x y:ZN)(hx:Ten.okL x)(hy:Ten.okL y)(hl:x.length≤100000)(hy':y.length≤100000):PCall prog 170 [.fs (nats .i64 x) x.length,.fs (nats .i64 y) y.length] (.ret (.fs (nats .i64 (Ten.eachR Ten.minusF x y x.length).1) x.length)):=by
 refine Xc (rs:=[.tmp 4]) [0,1,4,5,6,7,8,12,25] [] mixed (zg zer zh) (zf) call170 func170 rfl ntmps170 rfl ?_;simp only[go_sem];refine AXs.loop mixed (zg zer zh) (zf) (fun i:Nat=>[(0,.fs (nats .i64 x) x.length),(1,.fs (nats .i64 y) y.length),(5,acV (Ten.eachR Ten.minusF x y i).1),(6,.int .i64 (Ten.eachR Ten.minusF x y i).2),(7,.int .i64 i)]) (fun i=>⟨acBs .i64 (Ten.eachR Ten.minusF x y i).1,acN (Ten.eachR Ten.minusF x y i).1⟩) (fun i=>i≤x.length) (fun i=>x.length-i) 0 Zk Zs (Xa [] rfl rfl ?_ ?_) ?_
 ·simp only[go_sem,Ten.eachR,acV]
 ·simp only[go_sem,Ten.eachR,acBs]
 intro i h1;have hc:=Ten.minus_carry x y i;have hlen:=Ten.eachR_len Ten.minusF x y i;simp only[go_sem];refine Xb (fun h3=>?_) (fun h3=>?_)
 ·have h9x:x.getD i 0≤9:=zcV hx i;have h9y:y.getD i 0≤9:=zcV hy i;have hs:(Ten.eachR Ten.minusF x y (i+1))=((Ten.eachR Ten.minusF x y i).1++[(ztZ (x.getD i 0) (y.getD i 0) (Ten.eachR Ten.minusF x y i).2).1],(ztZ (x.getD i 0) (y.getD i 0) (Ten.eachR Ten.minusF x y i).2).2):=by rw[lessF_eq Zo Zo hc];rfl
  generalize (Ten.eachR Ten.minusF x y i)=wc at hc hlen hs ⊢;obtain⟨w,c⟩:=wc;dsimp only at hc hlen hs ⊢;obtain⟨p,hp⟩:∃p,x.getD i 0=p:=⟨_,rfl⟩;obtain⟨q,hq⟩:∃q,y.getD i 0=q:=⟨_,rfl⟩;rw[hp]at h9x hs;rw[hq]at h9y hs;simp(disch:=try exact Zq)only[go_sem,hp,hq];refine Xb (fun h4=>?_) (fun h4=>?_)
  ·have e:ztZ p q c=(p+10-q-c,1):=Yi Zo;have e2:((p+10-q-c:Nat):Int)=p-q-c+10:=Zo;rw[e]at hs;simp(disch:=try exact Zq)only[go_sem];rcases w with _|⟨d,w⟩
   ·simp(disch:=try exact Zq)only[go_sem,acV,acBs,acN]
    (repeat refine sdC ?_);refine zi (i+1) Zo Zo (Xa [(0,1)] rfl (by rw[hs];rfl) ?_ ?_)
    ·rw[hs];simp only[go_sem,acV,acBs,acN,e2];simp
    rw[hs];simp only[go_sem,acV,acBs,acN,e2];simp[nats,e2]
   simp(disch:=try exact Zq)only[go_sem,acV,acBs,acN];have hll:w.length+1=i:=hlen
   (repeat refine sdC ?_);refine zi (i+1) Zo Zo (Xa [(0,2)] rfl (by rw[hs];rfl) ?_ ?_)
   ·rw[hs];simp only[go_sem,acV,acBs,acN,e2];simp
   rw[hs];simp only[go_sem,acV,acBs,acN,e2];simp[nats,e2]
  have e:ztZ p q c=(p-q-c,0):=Yh Zo;have e2:((p-q-c:Nat):Int)=p-q-c:=Zo;rw[e]at hs;rcases w with _|⟨d,w⟩
  ·simp(disch:=try exact Zq)only[go_sem,acV,acBs,acN]
   (repeat refine sdC ?_);refine zi (i+1) Zo Zo (Xa [(0,1)] rfl (by rw[hs];rfl) ?_ ?_)
   ·rw[hs];simp only[go_sem,acV,acBs,acN,e2];simp
   rw[hs];simp only[go_sem,acV,acBs,acN,e2];simp[nats,e2]
  simp(disch:=try exact Zq)only[go_sem,acV,acBs,acN];have hll:w.length+1=i:=hlen
  (repeat refine sdC ?_);refine zi (i+1) Zo Zo (Xa [(0,2)] rfl (by rw[hs];rfl) ?_ ?_)
  ·rw[hs];simp only[go_sem,acV,acBs,acN,e2];simp
  rw[hs];simp only[go_sem,acV,acBs,acN,e2];simp[nats,e2]
 obtain rfl:i=x.length:=Zo;simp only[go_sem];generalize (Ten.eachR Ten.minusF x y x.length).1=w at hlen ⊢;rw[←hlen];rcases w with _|⟨d,w⟩
 ·simp only[go_sem,acV,acBs,acN];refine AXa.go mixed (zg zer zh) (zf) Zk ?_;simp only[go_sem]
 simp only[go_sem,acV,acBs,acN];refine AXa.go mixed (zg zer zh) (zf) Zk ?_;simp only[go_sem];exact Frz.slp rfl rfl (by simp[zQ]) (by simp[zbT]) (zaH _ _)
def zzX:ZV:=zC (fun p:ZN×ZN=>[.fs (nats .i64 p.1) p.1.length,.fs (nats .i64 p.2) p.2.length]) (fun p=>Ten.okL p.1∧Ten.okL p.2∧p.1.length≤100000∧p.2.length≤100000) fun p=>.ret (.fs (nats .i64 (Ten.eachR Ten.minusF p.1 p.2 p.1.length).1) p.1.length)
def znS(x y:ZN)(m n:Nat)(hm:m=x.length)(hn:n=y.length)(hx:Ten.okL x)(hy:Ten.okL y)(hl:x.length≤100000)(hl':y.length≤100000):zzX [.fs (nats .i64 x) m,.fs (nats .i64 y) n]=some (.ret (.fs (nats .i64 (Ten.eachR Ten.minusF x y m).1) m)):=by subst hm hn;exact zo (pat:=fun p:ZN×ZN=>[V.fs (nats .i64 p.1) p.1.length,.fs (nats .i64 p.2) p.2.length]) (fun x y h=>by simp at h;exact Yai (zaI h.1.1) (zaI h.2.1)) (x,y) ⟨hx,hy,hl,hl'⟩
def znR:ZC zzX 170:=zn fun p h=>rless_ok p.1 p.2 h.1 h.2.1 h.2.2.1 h.2.2.2
attribute [go_sem] znS
def rSub_ok(a b:ZL):PCall prog 146 [.str a,.str b] (.ret (subV a b)):=by
 refine Xc (rs:=[.tmp 4,.tmp 5]) [0,1,4,5,13,17] [] mixed (zg za5 (zg zep (zg zb9 (zg znR (zg zdu zh))))) (zf) call146 func146 rfl ntmps146 rfl ?_;by_cases ha:zH a=true
 case neg=>simp only[go_sem,subV,ha,errV]
 by_cases hb:zH b=true
 case neg=>simp only[go_sem,subV,ha,hb,errV]
 have la:=zW ha;have lb:=zW hb;have ea:=zaQ ha;have eb:=zaQ hb;have da:=zah ha;have db:=zah hb;have ka:=zcv a;have kb:=zcv b;have oa:=zeo da;have ob:=zeo db;have va:=zcY a;have vb:=zcY b;by_cases h:valD a<valD b
 ·have e:cmpI (valD a) (valD b)= -1:=by simp[cmpI,h]
  simp(disch:=try exact Zq)only[go_sem,subV,ha,hb,h,errV,e]
 have e:decide (cmpI (valD a) (valD b)<0)=false:=by
  simp only[cmpI];split
  ·omega
  split<;>rfl
 have hle:Ten.valL (digD b)≤Ten.valL (digD a):=Zo;have hlen:b.length≤a.length:=Yaa fun hlt=>h (zdQ (by rw[ea,eb];exact hlt));obtain⟨h1,h2⟩:=zry oa ob Zo hle;have h3:=Ten.eachR_len Ten.minusF (digD a) (digD b) (digD a).length;rw[va,vb]at h1;rw[ka]at h1 h2 h3;have ka':=ka.symm;have kb':=kb.symm;have h3':=h3.symm;simp(disch:=try exact Zq)only[go_sem,subV,ha,hb,h,e,h1]
def zeN {x y:ZN}(hx:Ten.okL x)(hy:Ten.okL y):∀i,(Ten.eachR Ten.plusF x y i).2≤1
 |0=>by simp[Ten.eachR]
 |i+1=>by have ih:=zeN hx hy i;have h1:=zcV hx i;have h2:=zcV hy i;show (_+_+_)/10≤1;omega
def rAdd_ok(a b:ZL):PCall prog 144 [.str a,.str b] (.ret (addV a b)):=by
 refine Xc (rs:=[.tmp 4,.tmp 5]) [0,1,4,5,6,7,8,9,10,11,19,33] [] mixed (zg za5 (zg zb9 (zg zer (zg zdu (zg zc0 zh))))) (zf) call144 func144 rfl ntmps144 rfl ?_;by_cases ha:zH a=true
 case neg=>simp only[go_sem,addV,ha,errV]
 by_cases hb:zH b=true
 case neg=>simp only[go_sem,addV,ha,hb,errV]
 have la:=zW ha;have lb:=zW hb;have da:=zah ha;have db:=zah hb;have ka:=(zcv a).symm;have kb:=(zcv b).symm;have oa:=zeo da;have ob:=zeo db;have va:=zcY a;have vb:=zcY b;simp(disch:=try exact Zq)only[go_sem,ha,hb];rw[ka,kb];have la':(digD a).length≤1000:=Zo;have lb':(digD b).length≤1000:=Zo;have goalV:addV a b=limV (Ten.valL (digD a)+Ten.valL (digD b)):=by simp only[addV,ha,hb,va,vb,Ycf,if_true]
 rw[goalV];generalize digD a=x at oa la' ⊢;generalize digD b=y at ob lb' ⊢;refine AXs.loop mixed ((zg za5 (zg zb9 (zg zer (zg zdu (zg zc0 zh)))))) (zf) (fun i:Nat=>[(6,.fs (nats .i64 x) x.length),(7,.fs (nats .i64 y) y.length),(8,acV (Ten.eachR Ten.plusF x y i).1),(9,.int .i64 (Ten.eachR Ten.plusF x y i).2),(10,.int .i64 i)]) (fun i=>⟨acBs .i64 (Ten.eachR Ten.plusF x y i).1,acN (Ten.eachR Ten.plusF x y i).1⟩) (fun i=>i≤max x.length y.length+1) (fun i=>max x.length y.length+1-i) 0 Zk Zs (Xa [] rfl rfl ?_ ?_) ?_
 ·simp only[go_sem,Ten.eachR,acV]
 ·simp only[go_sem,Ten.eachR,acBs]
 intro i h1;have hc:=zeN oa ob i;have hlen:=Ten.eachR_len Ten.plusF x y i;obtain⟨sv,ev,hse⟩:=zg2 (Ten.valL x+Ten.valL y);simp only[go_sem];refine AXc.intro (fun h3=>?_) (fun h3=>?_)
 ·have h3':i<max x.length y.length+1:=by simp only[Yao,Yq]at h3;omega
  have h9x:x.getD i 0≤9:=zcV oa i;have h9y:y.getD i 0≤9:=zcV ob i;have hs:(Ten.eachR Ten.plusF x y (i+1))=((Ten.eachR Ten.plusF x y i).1++[(x.getD i 0+y.getD i 0+(Ten.eachR Ten.plusF x y i).2)%10],(x.getD i 0+y.getD i 0+(Ten.eachR Ten.plusF x y i).2)/10):=rfl;generalize (Ten.eachR Ten.plusF x y i)=wc at hc hlen hs ⊢;obtain⟨w,c⟩:=wc;dsimp only at hc hlen hs ⊢;obtain⟨p,hp⟩:∃p,x.getD i 0=p:=⟨_,rfl⟩;obtain⟨q,hq⟩:∃q,y.getD i 0=q:=⟨_,rfl⟩;rw[hp]at h9x hs;rw[hq]at h9y hs;have e1:Int.tmod ((p:Int)+q+c) 10=((p+q+c)%10:Nat):=by rw[show (p:Int)+q+c=(p+q+c:Nat)by omega];rfl
  have e2:Int.tdiv ((p:Int)+q+c) 10=((p+q+c)/10:Nat):=by rw[show (p:Int)+q+c=(p+q+c:Nat)by omega];rfl
  rcases w with _|⟨d,w⟩
  ·simp(disch:=try exact Zq)only[go_sem,acV,acBs,acN,hp,hq,e1,e2]
   (repeat refine sdC ?_);refine zi (i+1) Zo Zo (Xa [(0,1)] rfl (by rw[hs];rfl) ?_ ?_)
   ·rw[hs];simp only[go_sem,acV,acBs,acN];simp
   rw[hs];simp only[go_sem,acV,acBs,acN];simp[nats]
  simp(disch:=try exact Zq)only[go_sem,acV,acBs,acN,hp,hq,e1,e2];have hll:w.length+1=i:=hlen
  (repeat refine sdC ?_);refine zi (i+1) Zo Zo (Xa [(0,2)] rfl (by rw[hs];rfl) ?_ ?_)
  ·rw[hs];simp only[go_sem,acV,acBs,acN];simp
  rw[hs];simp only[go_sem,acV,acBs,acN];simp[nats]
 have h3':i=max x.length y.length+1:=by simp only[YbK,Yay]at h3;omega
 obtain⟨h4,h5⟩:=add_val (n:=i) oa ob Zo Zo;generalize (Ten.eachR Ten.plusF x y i)=wc at hc hlen h4 h5 ⊢;obtain⟨w,c⟩:=wc;dsimp only at hc hlen h4 h5 ⊢;rcases w with _|⟨d,w⟩
 ·simp at hlen;omega
 simp only[go_sem,acV,acBs,acN];refine AXa.go mixed (zg za5 (zg zb9 (zg zer (zg zdu (zg zc0 zh))))) (zf) Zk ?_;have ht:(d::w).take (w.length+1)=d::w:=Yl (Yc _);have h6:(d::w).length≤1000000:=Zo;have h7:znM [.fs (nats .i64 (d::w)) (w.length+1)]=some (.ret (.str (dec (Ten.valL x+Ten.valL y)))):=by rw[←h4];exact zfP _ _ rfl h6 h5
 simp(disch:=try exact Zq)only[go_sem,ht,h7,hse]
def rMul_ok(a b:ZL):PCall prog 147 [.str a,.str b] (.ret (mulV a b)):=by
 have hΓ:=zg za5 (zg zb9 (zg zer (zg zdu (zg zc0 zh))));refine Xc (rs:=[.tmp 4,.tmp 5]) [0,1,4,5,6,7,8,9,10,11,12,20,35,41] [] mixed (hΓ) (zf) call147 func147 rfl ntmps147 rfl ?_;by_cases ha:zH a=true
 case neg=>simp only[go_sem,mulV,ha,errV]
 by_cases hb:zH b=true
 case neg=>simp only[go_sem,mulV,ha,hb,errV]
 have la:=zW ha;have lb:=zW hb;have da:=zah ha;have db:=zah hb;have ka:=(zcv a).symm;have kb:=(zcv b).symm;have ox:=zeo da;have oy:=zeo db;have va:=zcY a;have vb:=zcY b;have goalV:mulV a b=limV (Ten.valL (digD a)*Ten.valL (digD b)):=by simp only[mulV,ha,hb,va,vb,Ycf,if_true]
 rw[goalV];have hc1:zeJ [.str a]=some (.ret (.fs (nats .i64 (digD a)) (digD a).length)):=by rw[←ka];exact zcP a da Zo
 have hc2:zeJ [.str b]=some (.ret (.fs (nats .i64 (digD b)) (digD b).length)):=by rw[←kb];exact zcP b db Zo
 have la':(digD a).length≤1000:=Zo;have lb':(digD b).length≤1000:=Zo;simp(disch:=try exact Zq)only[go_sem,ha,hb,hc1,hc2];clear goalV va vb hc1 hc2 ka kb;generalize digD a=x at*;generalize digD b=y at*;obtain⟨s,e,hse⟩:=zg2 (Ten.valL x*Ten.valL y);simp(disch:=try exact Zq)only[go_sem,zkg,zln];refine⟨Zo,?_⟩;refine AXs.loop mixed (hΓ) (zf) (fun(p:Nat×ZN)=>[(6,.fs (nats .i64 x) x.length),(7,.fs (nats .i64 y) y.length),(8,.sl 0 0 (x.length+y.length+1) 1 (some (x.length+y.length+1))),(9,.int .i64 p.1)]) (fun p=>⟨[(0,.cells (nats .i64 p.2))],1⟩)
  (fun p=>p.1≤x.length∧Ten.mulOut x y p.1 p.2) (fun p=>x.length-p.1) (0,List.replicate (x.length+y.length+1) 0) Zk ⟨Yk _,Ten.mul_start x y⟩ (Xa [] rfl rfl ?_ ?_) ?_
 ·simp only[go_sem]
 ·simp only[go_sem]
 rintro⟨i,l0⟩ ⟨hi,ho⟩;dsimp only at hi ho ⊢;simp(disch:=try exact Zq)only[go_sem];refine Xb (fun h1=>?_) (fun h1=>?_)
 ·have hix:i<x.length:=Zo;simp(disch:=try exact Zq)only[go_sem];refine AXs.loop mixed (hΓ) (zf) (fun(p:Nat×ZN×Nat)=>[(6,.fs (nats .i64 x) x.length),(7,.fs (nats .i64 y) y.length),(8,.sl 0 0 (x.length+y.length+1) 1 (some (x.length+y.length+1))),(9,.int .i64 i),(10,.int .i64 p.2.2),(11,.int .i64 p.1)]) (fun p=>⟨[(0,.cells (nats .i64 p.2.1))],1⟩)
   (fun p=>p.1≤y.length+1∧Ten.mulInv x y i (Ten.valL l0) p.1 p.2.1 p.2.2) (fun p=>y.length+1-p.1) (0,l0,0) Zk ⟨Yk _,Ten.mul_row ho⟩ (Xa [] rfl rfl ?_ ?_) ?_
  ·simp only[go_sem]
  ·simp only[go_sem]
  rintro⟨k,l,c⟩ ⟨hk,hv⟩;dsimp only at hk hv ⊢;have hl:=hv.1;have hkl:=hv.2.1;have hcl:=hv.2.2.1;simp(disch:=try exact Zq)only[go_sem];refine Xb (fun h2=>?_) (fun h2=>?_)
  ·have hky:k≤y.length:=Zo;have hst:=Ten.mul_step ox oy hix hky hv;have hpl:=Ten.mulP_lt (i:=i) (k:=k) ox oy hkl hcl;have hgl:=zcV hkl (i+k);have hm:(x.getD i 0:Int)*(y.getD k 0:Int)=((x.getD i 0*y.getD k 0:Nat):Int):=Zs;have hp1:Ten.mulP x y i k l c=l.getD (i+k) 0+c+x.getD i 0*y.getD k 0:=rfl;generalize x.getD i 0*y.getD k 0=q at*;have e1:Int.tmod ((l.getD (i+k) 0:Nat)+(q:Int)+c) 10=(Ten.mulP x y i k l c%10:Nat):=by rw[hp1,show ((l.getD (i+k) 0:Nat):Int)+(q:Int)+c=(l.getD (i+k) 0+c+q:Nat)by omega];rfl
   have e2:Int.tdiv ((l.getD (i+k) 0:Nat)+(q:Int)+c) 10=(Ten.mulP x y i k l c/10:Nat):=by rw[hp1,show ((l.getD (i+k) 0:Nat):Int)+(q:Int)+c=(l.getD (i+k) 0+c+q:Nat)by omega];rfl
   simp(disch:=try exact Zq)only[go_sem,hm];refine⟨⟨Zo,Zo⟩,Zo,⟨Zo,Zo⟩,Zo,AXk.intro Zk ?_⟩;simp(disch:=try exact Zq)only[go_sem,e1,e2]
   (repeat refine sdC ?_);refine zi (k+1,l.set (i+k) (Ten.mulP x y i k l c%10),Ten.mulP x y i k l c/10) ⟨Zo,hst⟩ (by dsimp only;omega) (Xa [] rfl rfl ?_ ?_)
   ·simp only[go_sem];simp
   simp only[go_sem]
  have hke:k=y.length+1:=Zo;subst hke;have hen:=Ten.mul_end ho hv;simp(disch:=try exact Zq)only[go_sem];refine AXa.go mixed (hΓ) (zf) Zk ?_;simp(disch:=try exact Zq)only[go_sem];refine zi (i+1,l) ⟨Zo,hen⟩ (by dsimp only;omega) (Xa [] rfl rfl ?_ ?_)
  ·simp only[go_sem];simp
  simp only[go_sem]
 have hie:i=x.length:=Zo;subst hie;have hll:=ho.1;have hmv:Ten.valL l0=Ten.valL x*Ten.valL y:=by rw[ho.2.2.1,Ym]
 have h7:znM [.fs (nats .i64 l0) (x.length+y.length+1)]=some (.ret (.str (dec (Ten.valL x*Ten.valL y)))):=by rw[←hmv];exact zfP _ _ hll.symm Zo ho.2.1
 have ht:l0.take (x.length+y.length+1)=l0:=Yl Zo;simp only[go_sem];refine AXa.go mixed (hΓ) (zf) Zk ?_;have hle:x.length+y.length+1≤l0.length:=Zo;simp(disch:=try exact Zq)only[go_sem,h7,ht,hse,hle]
theorem Zr{p:Prop}(h:p:=by first|assumption|omega|(simp only[Yx,YI,Yd,Yac,YK,Yn,YY,zQ,zal,zO]<;>omega)):p:=h
def divV(a b:ZL):V:=if zH a=true∧zH b=true then(if valD b=0 then .tup [.str [],.str [],.int .i64 4]else .tup [.str (dec (valD a/valD b)),.str (dec (valD a%valD b)),.int .i64 0])else .tup [.str [],.str [],.int .i64 1]
def zf6 {x:Nat}{b:ZL}(hb:dec (valD b)=b)(lb:b.length≤1000)(h:valD b≤x)(hx:(dec x).length≤1001):∃W:ZN,zeJ [.str (dec x)]=some (.ret (.fs (nats .i64 (digD (dec x))) (dec x).length))∧zeJ [.str b]=some (.ret (.fs (nats .i64 (digD b)) b.length))∧zzX [.fs (nats .i64 (digD (dec x))) (dec x).length,.fs (nats .i64 (digD b)) b.length]=some (.ret (.fs (nats .i64 W) (dec x).length))∧znM [.fs (nats .i64 W) (dec x).length]=some (.ret (.str (dec (x-valD b)))):=by
 have db:b.all zaT=true:=by rw[←hb];exact zcO _
 have ox:=zeo (zcO x);have ob:=zeo db;have vx:=zcY (dec x);have vb:=zcY b;rw[zan]at vx;have kx:=zcv (dec x);have kb:=zcv b;have hlen:b.length≤(dec x).length:=by have:=zbn h;rwa [hb]at this
 obtain⟨h1,h2⟩:=zry ox ob Zo Zo;have h3:=Ten.eachR_len Ten.minusF (digD (dec x)) (digD b) (digD (dec x)).length;refine⟨(Ten.eachR Ten.minusF (digD (dec x)) (digD b) (digD (dec x)).length).1,zcP _ (zcO x) Zo,zcP _ db Zo,?_,?_⟩
 ·have:=znS (digD (dec x)) (digD b) (dec x).length b.length kx.symm kb.symm ox ob Zo Zo;rw[this,kx]
 rw[vx,vb]at h1;rw[←h1];exact zfP _ _ (by rw[h3,kx]) (by rw[h3];omega) h2
def rDiv_ok(a b:ZL):PCall prog 164 [.str a,.str b] (.ret (divV a b)):=by
 have hΓ:=zg za5 (zg zep (zg zb9 (zg znR (zg zdu zh))));refine Xc (rs:=[.tmp 4,.tmp 5,.tmp 6]) [0,1,4,5,6,7,8,9,10,11,19,21,25,29,45,69] [] mixed (hΓ) (zf) call164 func164 rfl ntmps164 rfl ?_;by_cases ha:zH a=true
 case neg=>simp only[go_sem,divV,ha]
 by_cases hb:zH b=true
 case neg=>simp only[go_sem,divV,ha,hb]
 have la:=zW ha;have lb:=zW hb;have da:=zah ha;have eb:=zaQ hb;have hz:decide (b=[48])=decide (valD b=0):=by
  have:b=[48]↔valD b=0:=by rw[←dec_is_zero,eb]
  simp only[this]
 simp(disch:=try exact Zr)only[go_sem,ha,hb];rw[hz];refine Xb (fun hn=>?_) (fun hn=>?_)
 ·simp only[go_sem,divV,ha,hb,hn]
 have hn0:0<valD b:=Zo;have hres:divV a b=.tup [.str (dec (valD a/valD b)),.str (dec (valD a%valD b)),.int .i64 0]:=by simp only[divV,ha,hb,Ycf,if_true,hn,if_false]
 rw[hres];have hane:0<a.length:=Ybx.2 (by rw[←zaQ ha];exact zjO _);simp only[go_sem];refine AXs.loop mixed (hΓ) (zf) (fun p:Nat×ZN=>[(0,.str a),(1,.str b),(7,acV (p.2.map (48+·))),(8,.str (dec (valD (a.take p.1)%valD b))),(9,.int .i64 p.1)]) (fun p=>⟨acBt 5 (p.2.map (48+·)),acN (p.2.map (48+·))⟩)
  (fun p=>p.1≤a.length∧p.2.length=p.1∧(∀d∈p.2,d<10)∧valD (p.2.map dg)=valD (a.take p.1)/valD b) (fun p=>a.length-p.1) (0,[]) Zk ⟨Yk _,rfl,Zs,by simp[zcT]⟩ (Xa [] rfl rfl ?_ ?_) ?_
 ·simp only[go_sem,acV,zcT,YbE,Nat.zero_mod,zrW,Ybg]
 ·simp only[go_sem,acBt,Ybg]
 rintro⟨i,w⟩ ⟨h1,h2,h3,h4⟩;dsimp only at h1 h2 h3 h4 ⊢;simp only[go_sem];refine Xb (fun h5=>?_) (fun h5=>?_)
 ·have hi:i<a.length:=Zo;have hdig:=all_getD.1 da i hi;have hdd:=zbG hdig;obtain⟨d,hd⟩:∃d,(a.getD i 0).toNat-48=d:=⟨_,rfl⟩;have hdg:dg d=a.getD i 0:=by rw[←hd];exact dg_of hdig
  have hd9:d<10:=Zo;have hq:=quo_step (V:=valD (a.take i)) hn0 hd9;have hvt:=zv1 hi;rw[hd]at hvt;have hrl:=YaJ (valD (a.take i)) hn0;have ha1:(a.take (i+1)).drop i=[dg d]:=by
   have:a.take (i+1)=a.take i++[a.getD i 0]:=by rw[YaG,Ya,Yb hi];rfl
   rw[this,List.drop_append,Yb4,hdg];have:(a.take i).length=i:=by simp;omega
   rw[this];simp
  have hzr:decide (dec (valD (a.take i)%valD b)=[48])=decide (valD (a.take i)%valD b=0):=by simp only[dec_is_zero]
  rw[←hvt]at hq;rw[←h4]at hq;generalize hr:valD (a.take i)%valD b=r at hq hrl hzr ⊢;have hS:10*r+d<10*valD b:=Zo;have lr:(dec r).length≤1000:=Ys (zbn (YbW hrl)) (by rw[eb];exact lb);have lS:(dec (10*r+d)).length≤1001:=by refine Ys (zbn (n:=10*valD b+0) Zo) ?_;rw[←zrX hn0 Zo,eb];simp;omega
  generalize hSe:10*r+d=S at hq hS lS;have hge:∀X:Nat,decide (0≤cmpI (X:Int) (valD b:Int))=decide (valD b≤X):=fun X=>by
   have:0≤cmpI (X:Int) (valD b:Int)↔valD b≤X:=by
    unfold cmpI;split
    ·omega
    split<;>omega
   simp only[this]
  rcases w with _|⟨u,w⟩
  ·simp only[go_sem,acV,acBt,acN,Ybg];simp(disch:=try exact Zr)only[go_sem,hzr];obtain rfl:i=0:=h2.symm;obtain rfl:r=0:=by rw[←hr];simp[zcT]
   simp(disch:=try exact Zr)only[go_sem]
   (repeat refine sdC ?_);have ha2:a.take 1=[dg d]:=by simpa using ha1
   rw[ha2,zzc hd9,hSe];have fin:∀j,j*valD b≤S→¬valD b≤S-j*valD b→j<10∧S/valD b=j∧S%valD b=S-j*valD b:=fun j hj h8=>by
    have e1:S/valD b=j:=by refine Ycu hj ?_;rw[Ybn];omega
    have e2:=Ybd S (valD b);rw[e1,Yav]at e2;exact⟨Zo,e1,Zo⟩
   have lt9:∀j,j*valD b+valD b≤S→j<10:=fun j hj=>by refine YaU (a:=valD b) ?_;omega
   refine AXs.loop mixed (hΓ) (zf) (fun j:Nat=>[(0,.str a),(1,.str b),(7,.nilS),(8,.str (dec (S-j*valD b))),(9,.int .i64 0),(10,.int .u8 (48+(j:Int)))]) (fun _=>⟨[],0⟩) (fun j=>j*valD b≤S) (fun j=>S-j*valD b) 0 Zk Zs (Xa [] rfl rfl ?_ ?_) ?_
   ·simp only[go_sem,Ybe,YbA]
   ·simp only[go_sem]
   rintro j hj;have hx:(dec (S-j*valD b)).length≤1001:=Ys (zbn (Nat.sub_le ..)) lS;have hcmp:zeq [.str (dec (S-j*valD b)),.str b]=some (.ret (.int .i64 (cmpI ((S-j*valD b:Nat):Int) (valD b)))):=by have:=zc1 (dec (S-j*valD b)) b (by rw[zan]) eb Zo;rwa [zan]at this
   simp(disch:=try exact Zr)only[go_sem,hcmp,hge];refine Xb (fun h8=>?_) (fun h8=>?_)
   ·obtain⟨W,c1,c2,c3,c4⟩:=zf6 eb lb h8 hx;have hj9:=lt9 j Zo;simp(disch:=try exact Zr)only[go_sem,c1,c2,c3,c4];refine zi (j+1) (by rw[Ybn];omega) (by rw[Ybn];omega) (Xa [] rfl rfl ?_ ?_)
    ·simp only[go_sem,Ybn,Nat.sub_add_eq];simp only[V.int.injEq,Yaf];omega
    simp only[go_sem]
   obtain⟨hj9,f1,f2⟩:=fin j hj h8;simp(disch:=try exact Zr)only[go_sem];refine AXa.go mixed (hΓ) (zf) Zk ?_;simp(disch:=try exact Zr)only[go_sem];have hm:valD (a.take (0+1))%valD b=S-j*valD b:=hq.2.1.trans f2;have hv:valD (([]++[j]).map dg)=valD (a.take (0+1))/valD b:=by rw[YV,show [j].map dg=[dg j]from rfl,zbR,zrU hj9,hq.1,f1]
   refine zi (0+1,[j]) ⟨Zo,rfl,?_,hv⟩ (by dsimp only;omega) (Xa [(0,1)] rfl rfl ?_ ?_)
   ·intro x hx;simp at hx;omega
   ·simp only[go_sem,acV,acBt,acN,hm,YN,Ybg,YV]
   simp only[go_sem,acV,acBt,acN,YN,Ybg,YV];simp[nats]
  simp only[go_sem,acV,acBt,acN,YN,Y5];simp(disch:=try exact Zr)only[go_sem,hzr];refine Xb (fun h6=>?_) (fun h6=>?_)
  ·simp(disch:=try exact Zr)only[go_sem]
   (repeat refine sdC ?_);have hSe':10*0+d=S:=by rw[←h6];exact hSe
   rw[ha1,zzc hd9,hSe'];have fin:∀j,j*valD b≤S→¬valD b≤S-j*valD b→j<10∧S/valD b=j∧S%valD b=S-j*valD b:=fun j hj h8=>by
    have e1:S/valD b=j:=by refine Ycu hj ?_;rw[Ybn];omega
    have e2:=Ybd S (valD b);rw[e1,Yav]at e2;exact⟨Zo,e1,Zo⟩
   have lt9:∀j,j*valD b+valD b≤S→j<10:=fun j hj=>by refine YaU (a:=valD b) ?_;omega
   refine AXs.loop mixed (hΓ) (zf) (fun j:Nat=>[(0,.str a),(1,.str b),(7,.sl 0 0 (w.length+1) 1 none),(8,.str (dec (S-j*valD b))),(9,.int .i64 i),(10,.int .u8 (48+(j:Int)))]) (fun _=>⟨[(0,.ty 5 (nats .u8 ((48+u)::w.map (48+·))))],1⟩) (fun j=>j*valD b≤S) (fun j=>S-j*valD b) 0 Zk Zs (Xa [(0,0)] rfl rfl ?_ ?_) ?_
   ·simp only[go_sem,Ybe,YbA]
   ·simp only[go_sem]
   rintro j hj;have hx:(dec (S-j*valD b)).length≤1001:=Ys (zbn (Nat.sub_le ..)) lS;have hcmp:zeq [.str (dec (S-j*valD b)),.str b]=some (.ret (.int .i64 (cmpI ((S-j*valD b:Nat):Int) (valD b)))):=by have:=zc1 (dec (S-j*valD b)) b (by rw[zan]) eb Zo;rwa [zan]at this
   simp(disch:=try exact Zr)only[go_sem,hcmp,hge];refine Xb (fun h8=>?_) (fun h8=>?_)
   ·obtain⟨W,c1,c2,c3,c4⟩:=zf6 eb lb h8 hx;have hj9:=lt9 j Zo;simp(disch:=try exact Zr)only[go_sem,c1,c2,c3,c4];refine zi (j+1) (by rw[Ybn];omega) (by rw[Ybn];omega) (Xa [(0,0)] rfl rfl ?_ ?_)
    ·simp only[go_sem,Ybn,Nat.sub_add_eq];simp only[V.int.injEq,Yaf];omega
    simp only[go_sem]
   obtain⟨hj9,f1,f2⟩:=fin j hj h8;simp(disch:=try exact Zr)only[go_sem];refine AXa.go mixed (hΓ) (zf) Zk ?_;simp(disch:=try exact Zr)only[go_sem];have hm:valD (a.take (i+1))%valD b=S-j*valD b:=hq.2.1.trans f2;have hv:valD (((u::w)++[j]).map dg)=valD (a.take (i+1))/valD b:=by rw[YV,show [j].map dg=[dg j]from rfl,zbR,zrU hj9,hq.1,f1]
   have hwl:w.length+1=i:=h2;refine⟨⟨Zs,Zo,Zo⟩,?_⟩;refine zi (i+1,u::(w++[j])) ⟨Zo,by simp;omega,?_,hv⟩ (by dsimp only;omega) (Xa [(0,2)] rfl rfl ?_ ?_)
   ·intro x hx;rcases Yy.1 hx with hx|hx
    ·exact h3 x (by rw[hx];simp)
    rcases Yar.1 hx with hx|hx
    ·exact h3 x (YD _ hx)
    simp at hx;omega
   ·simp only[go_sem,acV,acBt,acN,hm,YN,Ybg,YV];simp
   simp only[go_sem,acV,acBt,acN,YN,Ybg,YV];simp[nats,Yl]
  simp(disch:=try exact Zr)only[go_sem]
  (repeat refine sdC ?_);rw[ha1,zrX Zo hd9,hSe];have fin:∀j,j*valD b≤S→¬valD b≤S-j*valD b→j<10∧S/valD b=j∧S%valD b=S-j*valD b:=fun j hj h8=>by
   have e1:S/valD b=j:=by refine Ycu hj ?_;rw[Ybn];omega
   have e2:=Ybd S (valD b);rw[e1,Yav]at e2;exact⟨Zo,e1,Zo⟩
  have lt9:∀j,j*valD b+valD b≤S→j<10:=fun j hj=>by refine YaU (a:=valD b) ?_;omega
  refine AXs.loop mixed (hΓ) (zf) (fun j:Nat=>[(0,.str a),(1,.str b),(7,.sl 0 0 (w.length+1) 1 none),(8,.str (dec (S-j*valD b))),(9,.int .i64 i),(10,.int .u8 (48+(j:Int)))]) (fun _=>⟨[(0,.ty 5 (nats .u8 ((48+u)::w.map (48+·))))],1⟩) (fun j=>j*valD b≤S) (fun j=>S-j*valD b) 0 Zk Zs (Xa [(0,0)] rfl rfl ?_ ?_) ?_
  ·simp only[go_sem,Ybe,YbA]
  ·simp only[go_sem]
  rintro j hj;have hx:(dec (S-j*valD b)).length≤1001:=Ys (zbn (Nat.sub_le ..)) lS;have hcmp:zeq [.str (dec (S-j*valD b)),.str b]=some (.ret (.int .i64 (cmpI ((S-j*valD b:Nat):Int) (valD b)))):=by have:=zc1 (dec (S-j*valD b)) b (by rw[zan]) eb Zo;rwa [zan]at this
  simp(disch:=try exact Zr)only[go_sem,hcmp,hge];refine Xb (fun h8=>?_) (fun h8=>?_)
  ·obtain⟨W,c1,c2,c3,c4⟩:=zf6 eb lb h8 hx;have hj9:=lt9 j Zo;simp(disch:=try exact Zr)only[go_sem,c1,c2,c3,c4];refine zi (j+1) (by rw[Ybn];omega) (by rw[Ybn];omega) (Xa [(0,0)] rfl rfl ?_ ?_)
   ·simp only[go_sem,Ybn,Nat.sub_add_eq];simp only[V.int.injEq,Yaf];omega
   simp only[go_sem]
  obtain⟨hj9,f1,f2⟩:=fin j hj h8;simp(disch:=try exact Zr)only[go_sem];refine AXa.go mixed (hΓ) (zf) Zk ?_;simp(disch:=try exact Zr)only[go_sem];have hm:valD (a.take (i+1))%valD b=S-j*valD b:=hq.2.1.trans f2;have hv:valD (((u::w)++[j]).map dg)=valD (a.take (i+1))/valD b:=by rw[YV,show [j].map dg=[dg j]from rfl,zbR,zrU hj9,hq.1,f1]
  have hwl:w.length+1=i:=h2;refine⟨⟨Zs,Zo,Zo⟩,?_⟩;refine zi (i+1,u::(w++[j])) ⟨Zo,by simp;omega,?_,hv⟩ (by dsimp only;omega) (Xa [(0,2)] rfl rfl ?_ ?_)
  ·intro x hx;rcases Yy.1 hx with hx|hx
   ·exact h3 x (by rw[hx];simp)
   rcases Yar.1 hx with hx|hx
   ·exact h3 x (YD _ hx)
   simp at hx;omega
  ·simp only[go_sem,acV,acBt,acN,hm,YN,Ybg,YV];simp
  simp only[go_sem,acV,acBt,acN,YN,Ybg,YV];simp[nats,Yl]
 obtain rfl:i=a.length:=Zo;rw[Ym]at h4 ⊢;rcases w with _|⟨u,w⟩
 ·simp at h2;omega
 simp only[go_sem,acV,acBt,acN,YN,Y5];refine AXa.go mixed (hΓ) (zf) Zk ?_;simp only[go_sem];have hwl:w.length+1=a.length:=h2;have hml:(w.map (48+·)).length=w.length:=Zs;refine AXs.loop mixed (hΓ) (zf) (fun k:Nat=>[(7,.sl 0 0 (w.length+1) 1 none),(8,.str (dec (valD a%valD b))),(11,.int .i64 k)]) (fun _=>⟨[(0,.ty 5 (nats .u8 ((48+u)::w.map (48+·))))],1⟩) (fun k=>k≤w.length∧∀j,j<k→(u::w).getD j 0=0) (fun k=>w.length-k) 0 Zk ⟨Yk _,by intro j hj;omega⟩ (Xa [(0,0)] rfl rfl ?_ ?_) ?_
 ·simp only[go_sem]
 ·simp only[go_sem]
 rintro k ⟨k1,k2⟩;have hx:nthV (nats .u8 ((48+u)::w.map (48+·))) k=.int .u8 ((48+(u::w).getD k 0:Nat):Int):=by rw[zfz _ _ _ (by simp;omega)];congr 2;have:(48+u)::w.map (48+·)=(u::w).map (48+·):=rfl;rw[this,Ya,YX,Ya,Yb (by simp;omega)];rfl
 simp(disch:=try exact Zr)only[go_sem,hx];refine⟨fun h=>⟨h,Zo,Zo⟩,fun h=>⟨h,by rw[hml];omega⟩,?_⟩;have hb2:(decide ((k:Int)<((w.length+1:Nat):Int)-1)&&decide (((48+(u::w).getD k 0:Nat):Int)=48))=decide (k<w.length∧(u::w).getD k 0=0):=by have e1:(k:Int)<((w.length+1:Nat):Int)-1↔k<w.length:=Zo;have e2:((48+(u::w).getD k 0:Nat):Int)=48↔(u::w).getD k 0=0:=Zo;simp only[e1,e2,Bool.decide_and]
 rw[hb2];refine Xb (fun h6=>?_) (fun h6=>?_)
 ·simp(disch:=try exact Zr)only[go_sem];refine zi (k+1) ⟨Zo,fun j hj=>?_⟩ Zo (Xa [(0,0)] rfl rfl ?_ ?_)
  ·by_cases hjk:j<k
   ·exact k2 j hjk
   obtain rfl:j=k:=Zo;exact h6.2
  ·simp only[go_sem];simp
  simp only[go_sem]
 have h7:k=(u::w).length-1∨(u::w).getD k 0≠0:=by
  by_cases e:k<w.length
  ·exact .inr fun e'=>h6 ⟨e,e'⟩
  exact .inl (by simp;omega)
 have hq:=quo_text h3 (by simp;omega) k2 h7;rw[h4]at hq;simp(disch:=try exact Zr)only[go_sem];refine AXa.go mixed (hΓ) (zf) Zk ?_;have hby:bytesOf (nats .u8 (((u::w).drop k).map (48+·)))=some (dec (valD a/valD b)):=by rw[zfe fun d hd=>h3 d (Ybi hd),hq]
 have hcv:∀P:Program,P=prog→zcy P 28 9 (.sl 0 k (w.length+1-k) 1 none) ⟨[(0,.ty 5 (nats .u8 ((48+u)::w.map (48+·))))],1⟩=⟨True,.str (dec (valD a/valD b)),⟨[(0,.ty 5 (nats .u8 ((48+u)::w.map (48+·))))],1⟩,[0],[]⟩:=by rintro _ rfl;refine zeI 28 9 5 _ (nats .u8 (((u::w).drop k).map (48+·))) (w.length+1-k) [0] _ Zk Zk Zk ?_ hby;show (if _∧_ then some _ else none)=_;rw[Yi ⟨rfl,by simp[nats];omega⟩];have e:(48+u)::w.map (48+·)=(u::w).map (48+·):=rfl;rw[e,Yag,Ycg];simp only[nats,←Ycg];rw[Yl Zs]
 simp(disch:=try exact Zr)only[go_sem,hcv]
 (repeat refine sdC ?_);exact Yb1 _
def zaR {n:Nat}(h:(dec n).length≤1000):zH (dec n)=true:=by rw[zfX];simpa using h
def divV_dec {x y:Nat}(hx:(dec x).length≤1000)(hy:(dec y).length≤1000)(h0:0<y):divV (dec x) (dec y)=.tup [.str (dec (x/y)),.str (dec (x%y)),.int .i64 0]:=by have:¬y=0:=Zo;simp only[divV,zaR hx,zaR hy,Ycf,if_true,zan,this,if_false]
def cRDiv:ZV:=zC (fun p:ZL×ZL=>[.str p.1,.str p.2]) (fun _=>True) (fun p=>.ret (divV p.1 p.2))
def cRDiv_ok:ZC cRDiv 164:=zn fun p _=>rDiv_ok p.1 p.2
def cRDiv_eq(a b:ZL):cRDiv [.str a,.str b]=some (.ret (divV a b)):=zo (fun p q h=>by simp at h;exact Yai h.1 h.2) (a,b) trivial
@[go_sem]def cRDiv_dec(x y:Nat)(hx:(dec x).length≤1000)(hy:(dec y).length≤1000)(h0:0<y):cRDiv [.str (dec x),.str (dec y)]=some (.ret (.tup [.str (dec (x/y)),.str (dec (x%y)),.int .i64 0])):=by rw[cRDiv_eq,divV_dec hx hy h0]
def gcdV(a b:ZL):V:=if zH a=true∧zH b=true then .tup [.str (dec (Nat.gcd (valD a) (valD b))),.int .i64 0]else errV 1
def rGcd_ok(a b:ZL):PCall prog 143 [.str a,.str b] (.ret (gcdV a b)):=by
 have hΓ:=zg za5 (zg cRDiv_ok zh);refine Xc (rs:=[.tmp 4,.tmp 5]) [0,1,4,5,7,16,18] [] mixed (hΓ) (zf) call143 func143 rfl ntmps143 rfl ?_;by_cases ha:zH a=true
 case neg=>simp only[go_sem,gcdV,ha,errV]
 by_cases hb:zH b=true
 case neg=>simp only[go_sem,gcdV,ha,hb,errV]
 have la:=zW ha;have lb:=zW hb;have hres:gcdV a b=.tup [.str (dec (Nat.gcd (valD a) (valD b))),.int .i64 0]:=by simp only[gcdV,ha,hb,Ycf,if_true]
 rw[hres];simp only[go_sem,ha,hb];have ea:=zaQ ha;have eb:=zaQ hb;generalize valD a=A at*;generalize valD b=B at*;subst ea eb;refine AXs.loop mixed (hΓ) (zf) (fun p:Nat×Nat=>[(0,.str (dec p.1)),(1,.str (dec p.2))]) (fun _=>⟨[],0⟩) (fun p=>(dec p.1).length≤1000∧(dec p.2).length≤1000∧Nat.gcd p.1 p.2=Nat.gcd A B) (fun p=>p.2) (A,B) Zk ⟨la,lb,rfl⟩ (Xa [] rfl rfl ?_ ?_) ?_
 ·simp only[go_sem]
 ·simp only[go_sem]
 rintro⟨x,y⟩ ⟨h1,h2,h3⟩;dsimp only at h1 h2 h3 ⊢;have hz:decide (dec y=[48])=decide (y=0):=by simp only[dec_is_zero]
 simp(disch:=try exact Zq)only[go_sem];rw[hz];refine Xk (fun h4=>?_) (fun h4=>?_)
 ·have hy:0<y:=Zo;have hm:=YaJ x hy;simp(disch:=try exact Zq)only[go_sem];refine zi (y,x%y) ⟨h2,Ys (zbn (YbW hm)) h2,?_⟩ hm (Xa [] rfl rfl ?_ ?_)
  ·rw[←h3,Nat.gcd_comm x y,Nat.gcd_rec y x,Nat.gcd_comm]
  ·simp only[go_sem]
  simp only[go_sem]
 simp only[go_sem];refine AXa.go mixed (hΓ) (zf) Zk ?_;simp only[go_sem];rw[←h3,h4,Ycw]
def cRGcd:ZV:=zC (fun p:ZL×ZL=>[.str p.1,.str p.2]) (fun _=>True) (fun p=>.ret (gcdV p.1 p.2))
def cRGcd_ok:ZC cRGcd 143:=zn fun p _=>rGcd_ok p.1 p.2
def cRGcd_eq(a b:ZL):cRGcd [.str a,.str b]=some (.ret (gcdV a b)):=zo (fun p q h=>by simp at h;exact Yai h.1 h.2) (a,b) trivial
def zgo {a b:ZL}(ha:zH a=true)(hb:zH b=true):cRGcd [.str a,.str b]=some (.ret (.tup [.str (dec (Nat.gcd (valD a) (valD b))),.int .i64 0])):=by rw[cRGcd_eq,gcdV,Yi ⟨ha,hb⟩]
def zba {n:Nat}:decide (dec n=[49])=decide (n=1):=by have:dec n=[49]↔n=1:=⟨fun h=>zav (h.trans (show [49]=dec 1 from rfl)),fun h=>by rw[h];rfl⟩;simp only[this]
end Go.Proofs

namespace Go.Pl
def zaB(a:ZL):Bool:=zH a&&decide (a.length≤400)
def zD(a:ZL):Bool×ZL×ZL×Bool:=
 let neg:=decide (a.getD 0 0=45)
 let r:=if neg then a.drop 1 else a
 match r.findIdx? (· ==47)with
 |some i=>(neg,r.take i,r.drop (i+1),true)
 |none=>(neg,r,[49],false)
def zb0(neg:Bool)(n d:ZL)(fr:Bool):Bool:=
 zaB n&&zaB d&& !(neg&&decide (n=[48]))&& !(fr&&(decide (d=[48])||decide (d=[49])))&&decide (Nat.gcd (valD n) (valD d)=1)
def ratP(a:ZL):Option (Bool×Nat×Nat):=
 if zb0 (zD a).1 (zD a).2.1 (zD a).2.2.1 (zD a).2.2.2=true then some ((zD a).1,valD (zD a).2.1,valD (zD a).2.2.1)else none
def ratT(neg:Bool)(n d:Nat):ZL:=
 (if neg=true∧n≠0 then [45]else [])++dec n++(if d=1 then []else 47::dec d)
def longN(n:Nat):Bool:=decide (400<(dec n).length)
def shortN_iff {a:ZL}:zaB a=true↔zH a=true∧a.length≤400:=by simp[zaB]
def zam {a:ZL}(h:zH a=true):dec (valD a)=a:=(validN_iff.1 h).1.1
def zhE(a:ZL):(zD a).2.2.2=true∨(zD a).2.2.1=[49]:=by
 unfold zD;simp only;split
 ·exact .inl rfl
 exact .inr rfl
def zbm {a:ZL}{s:Bool}{n d:Nat}(h:ratP a=some (s,n,d)):0<d∧Nat.gcd n d=1∧(dec n).length≤400∧(dec d).length≤400:=by
 unfold ratP at h;split at h
 case isFalse=>cases h
 case isTrue hk=>
  simp only[YJ,Ybr]at h
  obtain⟨rfl,rfl,rfl⟩:=h
  simp only[zb0,Yg,Yq]at hk
  obtain⟨⟨⟨⟨h1,h2⟩,h3⟩,h4⟩,h5⟩:=hk
  have l1:=(shortN_iff.1 h1).2
  have l2:=(shortN_iff.1 h2).2
  refine⟨?_,h5,by rw[zam (shortN_iff.1 h1).1];exact l1,by rw[zam (shortN_iff.1 h2).1];exact l2⟩
  rcases YT (valD (zD a).2.2.1)with h0|h0
  ·exfalso;rw[h0,Ycw]at h5;have e:=zam (shortN_iff.1 h2).1;rw[h0]at e;have h6:(zD a).2.2.1=[48]:=by rw[←e];rfl
   rcases zhE a with h7|h7
   ·rw[h6,h7]at h4;simp at h4
   rw[h6]at h7;cases h7
  ·exact h0
def sumS(p:Bool)(a:Nat)(q:Bool)(b:Nat):Bool×Nat:=if p=q then(p,a+b)else if b≤a then(p,a-b)else(q,b-a)
end Go.Pl

namespace Go.Pl
def zcN {m n j k:Nat}(hm:(dec m).length≤j)(hn:(dec n).length≤k):(dec (m*n)).length≤j+k:=by have h1:=zbP hm;have h2:=zbP hn;have h3:=zdR m;refine zcD ?_ Zo;rw[Ycp];exact Nat.mul_lt_mul'' h1 h2
def zio {m n k:Nat}(hm:(dec m).length≤k)(hn:(dec n).length≤k):(dec (m+n)).length≤k+1:=by have h1:=zbP hm;have h2:=zbP hn;refine zcD ?_ Zo;rw[YM];generalize (10:Nat)^k=p at*;omega
end Go.Pl

namespace Go.Proofs
open Go.Ab Go.Pl
def zx6 {n:Nat}(h:(dec n).length≤1000):limV n=.tup [.str (dec n),.int .i64 0]:=Yh Zo
def zrm {x y:Nat}(hx:(dec x).length≤1000)(hy:(dec y).length≤1000)(h:(dec (x*y)).length≤1000):mulV (dec x) (dec y)=.tup [.str (dec (x*y)),.int .i64 0]:=by simp only[mulV,zaR hx,zaR hy,Ycf,if_true,zan,zx6 h]
def zsB {x y:Nat}(hx:(dec x).length≤1000)(hy:(dec y).length≤1000)(h:(dec (x+y)).length≤1000):addV (dec x) (dec y)=.tup [.str (dec (x+y)),.int .i64 0]:=by simp only[addV,zaR hx,zaR hy,Ycf,if_true,zan,zx6 h]
def zq5 {x y:Nat}(hx:(dec x).length≤1000)(hy:(dec y).length≤1000)(h:y≤x):subV (dec x) (dec y)=.tup [.str (dec (x-y)),.int .i64 0]:=by have:¬x<y:=Zo;simp only[subV,zaR hx,zaR hy,Ycf,if_true,zan,this,if_false]
def zr1 {x y:Nat}(hx:(dec x).length≤1000)(hy:(dec y).length≤1000):cmpV (dec x) (dec y)=cmpI x y:=by simp only[cmpV,zaR hx,zaR hy,Ycf,if_true,zan]
def mkV(neg:Bool)(n d:Nat):V:=if longN (n/Nat.gcd n d)=true∨longN (d/Nat.gcd n d)=true then errV 2 else .tup [.str (ratT neg (n/Nat.gcd n d) (d/Nat.gcd n d)),.int .i64 0]
def zbe(a b:ZL):Int:=match ratP a,ratP b with
 |some (p,m,d),some (q,n,f)=>if (sumS p (m*f) (!q) (n*d)).2=0 then 0 else if (sumS p (m*f) (!q) (n*d)).1=true then -1 else 1
 |_,_=>0
def zhH(a b:ZL):V:=match ratP a,ratP b with
 |some (p,m,d),some (q,n,f)=>mkV (sumS p (m*f) q (n*d)).1 (sumS p (m*f) q (n*d)).2 (d*f)
 |_,_=>errV 1
def zhG(a b:ZL):V:=match ratP a,ratP b with
 |some (p,m,d),some (q,n,f)=>mkV (!(p==q)) (m*n) (d*f)
 |_,_=>errV 1
def zfu {a b:ZL}{p q:Bool}{m d n f:Nat}(ha:ratP a=some (p,m,d))(hb:ratP b=some (q,n,f)):zbe a b=if (sumS p (m*f) (!q) (n*d)).2=0 then 0 else if (sumS p (m*f) (!q) (n*d)).1=true then -1 else 1:=by unfold zbe;generalize ratP a=x at*;generalize ratP b=y at*;subst ha hb;rfl
def zw5 {a b:ZL}{p q:Bool}{m d n f:Nat}(ha:ratP a=some (p,m,d))(hb:ratP b=some (q,n,f)):zhH a b=mkV (sumS p (m*f) q (n*d)).1 (sumS p (m*f) q (n*d)).2 (d*f):=by unfold zhH;generalize ratP a=x at*;generalize ratP b=y at*;subst ha hb;rfl
def zw3 {a b:ZL}{p q:Bool}{m d n f:Nat}(ha:ratP a=some (p,m,d))(hb:ratP b=some (q,n,f)):zhG a b=mkV (!(p==q)) (m*n) (d*f):=by unfold zhG;generalize ratP a=x at*;generalize ratP b=y at*;subst ha hb;rfl
def zmK {a:ZL}(b:ZL)(ha:ratP a=none):zbe a b=0:=by unfold zbe;generalize ratP a=x at*;subst ha;rfl
def zmJ(a:ZL){b:ZL}(hb:ratP b=none):zbe a b=0:=by unfold zbe;generalize ratP b=y at*;subst hb;cases ratP a<;>rfl
end Go.Proofs

namespace Go.Proofs
open Tryz Go.Ab Go.Pl
def zAx:ZV:=zC (fun p:Nat×Nat=>[.fs (nats .u64 (limbs p.1)) (limbs p.1).length,.fs (nats .u64 (limbs p.2)) (limbs p.2).length]) (fun p=>(limbs p.1).length≤500∧(limbs p.2).length≤500∧p.2≠0) fun p=>.ret (.tup [.fs (nats .u64 (limbs (p.1/p.2))) (limbs (p.1/p.2)).length,.fs (nats .u64 (limbs (p.1%p.2))) (limbs (p.1%p.2)).length])
def zvs(x y n m:Nat)(hn:n=(limbs x).length)(hm:m=(limbs y).length)(hx:(limbs x).length≤500)(hy:(limbs y).length≤500)(h0:y≠0):zAx [.fs (nats .u64 (limbs x)) n,.fs (nats .u64 (limbs y)) m]=some (.ret (.tup [.fs (nats .u64 (limbs (x/y))) (limbs (x/y)).length,.fs (nats .u64 (limbs (x%y))) (limbs (x%y)).length])):=by subst hn hm;exact zo (pat:=fun p:Nat×Nat=>[V.fs (nats .u64 (limbs p.1)) (limbs p.1).length,.fs (nats .u64 (limbs p.2)) (limbs p.2).length]) (fun _ _ h=>zke h) (x,y) ⟨hx,hy,h0⟩
def zvr:ZC zAx 177:=zn fun p h=>zy5 p.1 p.2 h.1 h.2.1 h.2.2
attribute [go_sem] zvs
def limbs_k {n k j:Nat}(h:(dec n).length≤k)(hk:k≤9*j):(limbs n).length≤j:=by
 refine zaO ?_;have h1:=zbP h;have h2:(1000000000:Nat)^j=10^(9*j):=by rw[show (1000000000:Nat)=10^9 from rfl,←Nat.pow_mul]
 rw[h2];exact Yu h1 (YL Zo hk)
def zrx {n:Nat}(h:(dec n).length≤1000):(limbs n).length≤500:=limbs_k h Zo
def zxP(a b:ZL):PCall prog 157 [.str a,.str b] (.ret (gcdV a b)):=by
 have hΓ:=zg zdt (zg zdv (zg zvr (zg (zlF zq1) zh)));refine Xc (rs:=[.tmp 4,.tmp 5]) [0,1,4,5,6,7,9,17,24] [] mixed (hΓ) (zf) call157 func157 rfl ntmps157 rfl ?_;by_cases ha:zH a=true
 case neg=>simp only[go_sem,gcdV,ha,errV]
 by_cases hb:zH b=true
 case neg=>simp only[go_sem,gcdV,ha,hb,errV]
 have da:=zah ha;have la:=zW ha;have db:=zah hb;have lb:=zW hb;have ba:=zrx (n:=valD a) (by rw[zaQ ha];exact la);have bb:=zrx (n:=valD b) (by rw[zaQ hb];exact lb);have hres:gcdV a b=.tup [.str (dec (Nat.gcd (valD a) (valD b))),.int .i64 0]:=by simp only[gcdV,ha,hb,Ycf,if_true]
 rw[hres];simp(disch:=try exact Zq)only[go_sem,ha,hb];generalize valD a=A at*;generalize valD b=B at*;refine AXs.loop mixed (hΓ) (zf) (fun p:Nat×Nat=>[(6,.fs (nats .u64 (limbs p.1)) (limbs p.1).length),(7,.fs (nats .u64 (limbs p.2)) (limbs p.2).length)]) (fun _=>⟨[],0⟩) (fun p=>(limbs p.1).length≤500∧(limbs p.2).length≤500∧Nat.gcd p.1 p.2=Nat.gcd A B) (fun p=>p.2) (A,B) Zk ⟨ba,bb,rfl⟩ (Xa [] rfl rfl ?_ ?_) ?_
 ·simp only[go_sem]
 ·simp only[go_sem]
 rintro⟨x,y⟩ ⟨h1,h2,h3⟩;dsimp only at h1 h2 h3 ⊢;simp(disch:=try exact Zq)only[go_sem];refine Xb (fun h4=>?_) (fun h4=>?_)
 ·have hy:y≠0:=fun e=>by subst e;rw[zaL]at h4;simp at h4
  have hm:=YaJ x (YbV hy);simp(disch:=try exact Zq)only[go_sem];refine zi (y,x%y) ⟨h2,?_,?_⟩ hm (Xa [] rfl rfl ?_ ?_)
  ·refine Ys (Yaa fun hlt=>?_) h2;have:=zaV hlt;omega
  ·rw[←h3,Nat.gcd_comm x y,Nat.gcd_rec y x,Nat.gcd_comm]
  ·simp only[go_sem]
  simp only[go_sem]
 have hy:y=0:=limbs_nil.1 (YB Zo);simp(disch:=try exact Zq)only[go_sem];refine AXa.go mixed (hΓ) (zf) Zk ?_;simp(disch:=try exact Zq)only[go_sem];rw[←h3,hy,Ycw]
def cNMul:ZV:=zC (fun p:Nat×Nat=>[.str (dec p.1),.str (dec p.2)]) (fun p=>(dec p.1).length≤1000∧(dec p.2).length≤1000∧(dec (p.1*p.2)).length≤1000) (fun p=>.ret (.tup [.str (dec (p.1*p.2)),.int .i64 0]))
def cNMul_ok:ZC cNMul 130:=zn fun p h=>by have:=zxO zq1 (dec p.1) (dec p.2);rwa [zrm h.1 h.2.1 h.2.2]at this
@[go_sem]def cNMul_eq(m n:Nat)(hm:(dec m).length≤1000)(hn:(dec n).length≤1000)(h:(dec (m*n)).length≤1000):cNMul [.str (dec m),.str (dec n)]=some (.ret (.tup [.str (dec (m*n)),.int .i64 0])):=
 zo (pat:=fun p:Nat×Nat=>[V.str (dec p.1),.str (dec p.2)]) (fun x y h=>by simp at h;exact Yai (zav h.1) (zav h.2)) (m,n) ⟨hm,hn,h⟩
def cNAdd:ZV:=zC (fun p:Nat×Nat=>[.str (dec p.1),.str (dec p.2)]) (fun p=>(dec p.1).length≤1000∧(dec p.2).length≤1000∧(dec (p.1+p.2)).length≤1000) (fun p=>.ret (.tup [.str (dec (p.1+p.2)),.int .i64 0]))
def cNAdd_ok:ZC cNAdd 150:=zn fun p h=>by have:=zxR zq1 (dec p.1) (dec p.2);rwa [zsB h.1 h.2.1 h.2.2]at this
@[go_sem]def cNAdd_eq(m n:Nat)(hm:(dec m).length≤1000)(hn:(dec n).length≤1000)(h:(dec (m+n)).length≤1000):cNAdd [.str (dec m),.str (dec n)]=some (.ret (.tup [.str (dec (m+n)),.int .i64 0])):=
 zo (pat:=fun p:Nat×Nat=>[V.str (dec p.1),.str (dec p.2)]) (fun x y h=>by simp at h;exact Yai (zav h.1) (zav h.2)) (m,n) ⟨hm,hn,h⟩
def cNSub:ZV:=zC (fun p:Nat×Nat=>[.str (dec p.1),.str (dec p.2)]) (fun p=>(dec p.1).length≤1000∧(dec p.2).length≤1000∧p.2≤p.1) (fun p=>.ret (.tup [.str (dec (p.1-p.2)),.int .i64 0]))
def cNSub_ok:ZC cNSub 152:=zn fun p h=>by have:=zxN zq1 (dec p.1) (dec p.2);rwa [zq5 h.1 h.2.1 h.2.2]at this
@[go_sem]def cNSub_eq(m n:Nat)(hm:(dec m).length≤1000)(hn:(dec n).length≤1000)(h:n≤m):cNSub [.str (dec m),.str (dec n)]=some (.ret (.tup [.str (dec (m-n)),.int .i64 0])):=
 zo (pat:=fun p:Nat×Nat=>[V.str (dec p.1),.str (dec p.2)]) (fun x y h=>by simp at h;exact Yai (zav h.1) (zav h.2)) (m,n) ⟨hm,hn,h⟩
def cNCmp:ZV:=zC (fun p:Nat×Nat=>[.str (dec p.1),.str (dec p.2)]) (fun p=>(dec p.1).length≤1000∧(dec p.2).length≤1000) (fun p=>.ret (.int .i64 (cmpI p.1 p.2)))
def cNCmp_ok:ZC cNCmp 151:=zn fun p h=>by have:=zxQ (dec p.1) (dec p.2);rwa [zr1 h.1 h.2]at this
@[go_sem]def cNCmp_eq(m n:Nat)(hm:(dec m).length≤1000)(hn:(dec n).length≤1000):cNCmp [.str (dec m),.str (dec n)]=some (.ret (.int .i64 (cmpI m n))):=
 zo (pat:=fun p:Nat×Nat=>[V.str (dec p.1),.str (dec p.2)]) (fun x y h=>by simp at h;exact Yai (zav h.1) (zav h.2)) (m,n) ⟨hm,hn⟩
def cNGcd:ZV:=zC (fun p:ZL×ZL=>[.str p.1,.str p.2]) (fun _=>True) (fun p=>.ret (gcdV p.1 p.2))
def cNGcd_ok:ZC cNGcd 157:=zn fun p _=>zxP p.1 p.2
def zet {a b:ZL}(ha:zH a=true)(hb:zH b=true):cNGcd [.str a,.str b]=some (.ret (.tup [.str (dec (Nat.gcd (valD a) (valD b))),.int .i64 0])):=by have:cNGcd [.str a,.str b]=some (.ret (gcdV a b)):=zo (fun p q h=>by simp at h;exact Yai h.1 h.2) (a,b) trivial;rw[this,gcdV,Yi ⟨ha,hb⟩]
def must_ok(s:ZL):PCall prog 129 [.str s,.int .i64 0] (.ret (.str s)):=by refine Xc (rs:=[.tmp 4]) [0,1,4,6] [] mixed (zh) (zf) call129 func129 rfl ntmps129 rfl ?_;simp only[go_sem]
def cMust:ZV:=zC (fun s:ZL=>[.str s,.int .i64 0]) (fun _=>True) (fun s=>.ret (.str s))
def zsi:ZC cMust 129:=zn fun s _=>must_ok s
@[go_sem]def cMust_eq(s:ZL):cMust [.str s,.int .i64 0]=some (.ret (.str s)):=zo (pat:=fun s:ZL=>[V.str s,.int .i64 0]) (fun x y h=>by simpa using h) s trivial
def rplus_ok(p:Bool)(m:Nat)(q:Bool)(n:Nat)(hm:(dec m).length≤800)(hn:(dec n).length≤800):PCall prog 128 [.bool p,.str (dec m),.bool q,.str (dec n)] (.ret (.tup [.bool (sumS p m q n).1,.str (dec (sumS p m q n).2)])):=by
 have hΓ:=zg cNAdd_ok (zg cNCmp_ok (zg cNSub_ok (zg zsi zh)));refine Xc (rs:=[.tmp 8,.tmp 9]) [0,1,2,3,8,9,12,23] [] mixed (hΓ) (zf) call128 func128 rfl ntmps128 rfl ?_;have ha:=zio hm hn;by_cases hpq:p=q
 ·subst hpq;simp(disch:=try exact Zq)only[go_sem,sumS,YbD,Yba]
 have hpq':(p==q)=false:=by simpa using hpq
 simp(disch:=try exact Zq)only[go_sem,hpq'];refine Xb (fun h1=>?_) (fun h1=>?_)
 ·have h2:¬n≤m:=by
   rw[zbH]at h1;split at h1
   ·omega
   split at h1<;>omega
  simp(disch:=try exact Zq)only[go_sem,sumS,hpq,h2]
 have h2:n≤m:=by
  rw[zbH]at h1;split at h1
  ·omega
  omega
 simp(disch:=try exact Zq)only[go_sem,sumS,hpq,h2]
def cNPlus:ZV:=zC (fun p:Bool×Nat×Bool×Nat=>[.bool p.1,.str (dec p.2.1),.bool p.2.2.1,.str (dec p.2.2.2)]) (fun p=>(dec p.2.1).length≤800∧(dec p.2.2.2).length≤800) (fun p=>.ret (.tup [.bool (sumS p.1 p.2.1 p.2.2.1 p.2.2.2).1,.str (dec (sumS p.1 p.2.1 p.2.2.1 p.2.2.2).2)]))
def zAa:ZC cNPlus 128:=zn fun p h=>rplus_ok p.1 p.2.1 p.2.2.1 p.2.2.2 h.1 h.2
@[go_sem]def cNPlus_eq(p:Bool)(m:Nat)(q:Bool)(n:Nat)(hm:(dec m).length≤800)(hn:(dec n).length≤800):cNPlus [.bool p,.str (dec m),.bool q,.str (dec n)]=some (.ret (.tup [.bool (sumS p m q n).1,.str (dec (sumS p m q n).2)])):=
 zo (pat:=fun p:Bool×Nat×Bool×Nat=>[V.bool p.1,.str (dec p.2.1),.bool p.2.2.1,.str (dec p.2.2.2)]) (fun x y h=>by obtain⟨x1,x2,x3,x4⟩:=x;obtain⟨y1,y2,y3,y4⟩:=y;simp at h;obtain⟨h1,h2,h3,h4⟩:=h;rw[h1,zav h2,h3,zav h4]) (p,m,q,n) ⟨hm,hn⟩
end Go.Proofs
