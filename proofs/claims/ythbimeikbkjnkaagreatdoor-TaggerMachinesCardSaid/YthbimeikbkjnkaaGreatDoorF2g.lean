/- The reference's natural numbers: Div. -/
import Derived.Test.YthbimeikbkjnkaaGreatDoorF2b
set_option linter.all false
set_option maxHeartbeats 16000000
set_option maxRecDepth 100000
namespace Go.Proofs
open Tryz Go.Ab Go.Pl
def divV(a b:List UInt8):V:=if zD a=true∧zD b=true then(if valD b=0 then .tup [.str [],.str [],.int .i64 4]else .tup [.str (dec (valD a / valD b)),.str (dec (valD a % valD b)),.int .i64 0])else .tup [.str [],.str [],.int .i64 1]
theorem zf1 {x:Nat}{b:List UInt8}(hb:dec (valD b)=b)(lb:b.length≤1000)(h:valD b≤x)(hx:(dec x).length≤1001):∃ W:List Nat,
 zeJ [.str (dec x)]=some (.ret (.fs (nats .i64 (digD (dec x))) (dec x).length))∧zeJ [.str b]=some (.ret (.fs (nats .i64 (digD b)) b.length))∧
 zAD [.fs (nats .i64 (digD (dec x))) (dec x).length,.fs (nats .i64 (digD b)) b.length]=some (.ret (.fs (nats .i64 W) (dec x).length))∧
 znM [.fs (nats .i64 W) (dec x).length]=some (.ret (.str (dec (x - valD b)))):=by
 have db:b.all zaV=true:=by rw [←hb];exact zcq _
 have ox:=zek (zcq x)
 have ob:=zek db
 have vx:=zc0 (dec x)
 have vb:=zc0 b
 rw [zab]at vx
 have kx:=zcw (dec x)
 have kb:=zcw b
 have hlen:b.length≤(dec x).length:=by have:=zaq h;rwa [hb]at this
 obtain⟨h1,h2⟩:=zrt ox ob (by omega) (by omega)
 have h3:=Ten.eachR_len Ten.minusF (digD (dec x)) (digD b) (digD (dec x)).length
 refine⟨(Ten.eachR Ten.minusF (digD (dec x)) (digD b) (digD (dec x)).length).1,zcN _ (zcq x) (by omega),zcN _ db (by omega),?_,?_⟩
 ·have:=znR (digD (dec x)) (digD b) (dec x).length b.length kx.symm kb.symm ox ob (by omega) (by omega)
  rw [this,kx]
 ·rw [vx,vb]at h1
  rw [←h1]
  exact zfN _ _ (by rw [h3,kx]) (by rw [h3];omega) h2
theorem rDiv_ok(a b:List UInt8):PCall prog 129 [.str a,.str b] (.ret (divV a b)):=by
 have hΓ:=zf zaR (zf zem (zf zb7 (zf znQ (zf zdm zh))));refine PCall.wD (rs:=[.tmp 4,.tmp 5,.tmp 6]) [0,1,4,5,6,7,8,9,10,11,19,21,25,29,45,69] [] mixed (hΓ) (zg) call129 func129 rfl ntmps129 rfl ?_;by_cases ha:zD a=true
 case neg=>simp only [go_sem,divV,ha]
 by_cases hb:zD b=true
 case neg=>simp only [go_sem,divV,ha,hb]
 have la:=zL ha;have lb:=zL hb;have da:=zW ha;have eb:=zal hb;have hz:decide (b=[48])=decide (valD b=0):=by
  have:b=[48]↔valD b=0:=by rw [←dec_is_zero,eb]
  simp only [this]
 simp (disch:=(first|assumption|omega|(simp only [YG,Y0,Yi,YL,Yw,Ym,YU,zK,zae,zaj]<;>omega)|fail)) only [go_sem,ha,hb];rw [hz];refine AXc.introP (fun hn=>?_) (fun hn=>?_)
 ·simp only [go_sem,divV,ha,hb,hn]
 have hn0:0<valD b:=by omega
 have hres:divV a b=.tup [.str (dec (valD a / valD b)),.str (dec (valD a % valD b)),.int .i64 0]:=by simp only [divV,ha,hb,YbU,if_true,hn,if_false]
 rw [hres];have hane:0<a.length:=Ycf.2 (by rw [←zal ha];exact zjQ _);simp only [go_sem];refine AXs.loop mixed (hΓ) (zg) (fun p:Nat×List Nat=>[(0,.str a),(1,.str b),(7,acV (p.2.map (48+·))),(8,.str (dec (valD (a.take p.1) % valD b))),(9,.int .i64 p.1)]) (fun p=>⟨acBt 5 (p.2.map (48+·)),acN (p.2.map (48+·))⟩)
  (fun p=>p.1≤a.length∧p.2.length=p.1∧(∀ d∈p.2,d<10)∧valD (p.2.map dg)=valD (a.take p.1) / valD b) (fun p=>a.length - p.1) (0,[]) (by kernel_rfl) ⟨Yk _,rfl,by simp,by simp [zcU]⟩ (Sub.of0 [] rfl rfl ?_ ?_) ?_
 ·simp only [go_sem,acV,zcU,Ybk,Nat.zero_mod,zrO,Ya5]
 ·simp only [go_sem,acBt,Ya5]
 rintro⟨i,w⟩ ⟨h1,h2,h3,h4⟩;dsimp only at h1 h2 h3 h4 ⊢;simp only [go_sem];refine AXc.introP (fun h5=>?_) (fun h5=>?_)
 ·have hi:i<a.length:=by omega
  have hdig:=all_getD.1 da i hi;have hdd:=zbE hdig;obtain⟨d,hd⟩:∃ d,(a.getD i 0).toNat - 48=d:=⟨_,rfl⟩;have hdg:dg d=a.getD i 0:=by rw [←hd];exact dg_of hdig
  have hd9:d<10:=by omega
  have hq:=quo_step (V:=valD (a.take i)) hn0 hd9;have hvt:=zwr hi;rw [hd]at hvt;have hrl:=YaM (valD (a.take i)) hn0;have ha1:(a.take (i+1)).drop i=[dg d]:=by
   have:a.take (i+1)=a.take i++[a.getD i 0]:=by rw [Ya8,Ya,Yb hi];rfl
   rw [this,List.drop_append,Yb9,hdg];have:(a.take i).length=i:=by simp;omega
   rw [this];simp
  have hzr:decide (dec (valD (a.take i) % valD b)=[48])=decide (valD (a.take i) % valD b=0):=by simp only [dec_is_zero]
  rw [←hvt]at hq;rw [←h4]at hq;generalize hr:valD (a.take i) % valD b=r at hq hrl hzr ⊢;have hS:10*r+d<10*valD b:=by omega
  have lr:(dec r).length≤1000:=Yn (zaq (YbA hrl)) (by rw [eb];exact lb);have lS:(dec (10*r+d)).length≤1001:=by refine Yn (zaq (n:=10*valD b+0) (by omega)) ?_;rw [←zrP hn0 (by omega),eb];simp;omega
  generalize hSe:10*r+d=S at hq hS lS;have hge:∀ X:Nat,decide (0≤cmpI (X:Int) (valD b:Int))=decide (valD b≤X):=fun X=>by
   have:0≤cmpI (X:Int) (valD b:Int)↔valD b≤X:=by
    unfold cmpI;split
    ·omega
    ·split<;>omega
   simp only [this]
  rcases w with _|⟨u,w⟩
  ·simp only [go_sem,acV,acBt,acN,Ya5];simp (disch:=(first|assumption|omega|(simp only [YG,Y0,Yi,YL,Yw,Ym,YU,zK,zae,zaj]<;>omega)|fail)) only [go_sem,hzr];obtain rfl:i=0:=h2.symm;obtain rfl:r=0:=by rw [←hr];simp [zcU]
   simp (disch:=(first|assumption|omega|(simp only [YG,Y0,Yi,YL,Yw,Ym,YU,zK,zae,zaj]<;>omega)|fail)) only [go_sem]
   (repeat refine sdC ?_);have ha2:a.take 1=[dg d]:=by simpa using ha1
   rw [ha2,zzH hd9,hSe];have fin:∀ j,j*valD b≤S→¬valD b≤S - j*valD b→j<10∧S / valD b=j∧S % valD b=S - j*valD b:=fun j hj h8=>by
    have e1:S / valD b=j:=by refine YcH hj ?_;rw [Ya4];omega
    have e2:=Ya2 S (valD b);rw [e1,Yay]at e2;exact⟨by omega,e1,by omega⟩
   have lt9:∀ j,j*valD b+valD b≤S→j<10:=fun j hj=>by refine YaS (a:=valD b) ?_;omega
   refine AXs.loop mixed (hΓ) (zg) (fun j:Nat=>[(0,.str a),(1,.str b),(7,.nilS),(8,.str (dec (S - j*valD b))),(9,.int .i64 0),(10,.int .u8 (48+(j:Int)))]) (fun _=>⟨[],0⟩) (fun j=>j*valD b≤S) (fun j=>S - j*valD b) 0 (by kernel_rfl) (by simp) (Sub.of0 [] rfl rfl ?_ ?_) ?_
   ·simp only [go_sem,Ybm,Ybo]
   ·simp only [go_sem]
   rintro j hj;have hx:(dec (S - j*valD b)).length≤1001:=Yn (zaq (Nat.sub_le ..)) lS;have hcmp:zen [.str (dec (S - j*valD b)),.str b]=some (.ret (.int .i64 (cmpI ((S - j*valD b:Nat):Int) (valD b)))):=by have:=zc2 (dec (S - j*valD b)) b (by rw [zab]) eb (by omega);rwa [zab]at this
   simp (disch:=(first|assumption|omega|(simp only [YG,Y0,Yi,YL,Yw,Ym,YU,zK,zae,zaj]<;>omega)|fail)) only [go_sem,hcmp,hge];refine AXc.introP (fun h8=>?_) (fun h8=>?_)
   ·obtain⟨W,c1,c2,c3,c4⟩:=zf1 eb lb h8 hx;have hj9:=lt9 j (by omega);simp (disch:=(first|assumption|omega|(simp only [YG,Y0,Yi,YL,Yw,Ym,YU,zK,zae,zaj]<;>omega)|fail)) only [go_sem,c1,c2,c3,c4];refine zi (j+1) (by rw [Ya4];omega) (by rw [Ya4];omega) (Sub.of0 [] rfl rfl ?_ ?_)
    ·simp only [go_sem,Ya4,Nat.sub_add_eq];simp only [V.int.injEq,Yan];omega
    ·simp only [go_sem]
   ·obtain⟨hj9,f1,f2⟩:=fin j hj h8;simp (disch:=(first|assumption|omega|(simp only [YG,Y0,Yi,YL,Yw,Ym,YU,zK,zae,zaj]<;>omega)|fail)) only [go_sem];refine AXa.go mixed (hΓ) (zg) (by kernel_rfl) ?_;simp (disch:=(first|assumption|omega|(simp only [YG,Y0,Yi,YL,Yw,Ym,YU,zK,zae,zaj]<;>omega)|fail)) only [go_sem];have hm:valD (a.take (0+1)) % valD b=S - j*valD b:=hq.2.1.trans f2;have hv:valD (([]++[j]).map dg)=valD (a.take (0+1)) / valD b:=by rw [Yau,show [j].map dg=[dg j]from rfl,zbP,zrN hj9,hq.1,f1]
    refine zi (0+1,[j]) ⟨by omega,rfl,?_,hv⟩ (by dsimp only;omega) (Sub.of0 [(0,1)] rfl rfl ?_ ?_)
    ·intro x hx;simp at hx;omega
    ·simp only [go_sem,acV,acBt,acN,hm,YM,Ya5,Yau]
    ·simp only [go_sem,acV,acBt,acN,YM,Ya5,Yau];simp [nats]
  ·simp only [go_sem,acV,acBt,acN,YM,Yb5];simp (disch:=(first|assumption|omega|(simp only [YG,Y0,Yi,YL,Yw,Ym,YU,zK,zae,zaj]<;>omega)|fail)) only [go_sem,hzr];refine AXc.introP (fun h6=>?_) (fun h6=>?_)
   ·simp (disch:=(first|assumption|omega|(simp only [YG,Y0,Yi,YL,Yw,Ym,YU,zK,zae,zaj]<;>omega)|fail)) only [go_sem]
    (repeat refine sdC ?_);have hSe':10*0+d=S:=by rw [←h6];exact hSe
    rw [ha1,zzH hd9,hSe'];have fin:∀ j,j*valD b≤S→¬valD b≤S - j*valD b→j<10∧S / valD b=j∧S % valD b=S - j*valD b:=fun j hj h8=>by
     have e1:S / valD b=j:=by refine YcH hj ?_;rw [Ya4];omega
     have e2:=Ya2 S (valD b);rw [e1,Yay]at e2;exact⟨by omega,e1,by omega⟩
    have lt9:∀ j,j*valD b+valD b≤S→j<10:=fun j hj=>by refine YaS (a:=valD b) ?_;omega
    refine AXs.loop mixed (hΓ) (zg) (fun j:Nat=>[(0,.str a),(1,.str b),(7,.sl 0 0 (w.length+1) 1 none),(8,.str (dec (S - j*valD b))),(9,.int .i64 i),(10,.int .u8 (48+(j:Int)))]) (fun _=>⟨[(0,.ty 5 (nats .u8 ((48+u)::w.map (48+·))))],1⟩) (fun j=>j*valD b≤S) (fun j=>S - j*valD b) 0 (by kernel_rfl) (by simp) (Sub.of0 [(0,0)] rfl rfl ?_ ?_) ?_
    ·simp only [go_sem,Ybm,Ybo]
    ·simp only [go_sem]
    rintro j hj;have hx:(dec (S - j*valD b)).length≤1001:=Yn (zaq (Nat.sub_le ..)) lS;have hcmp:zen [.str (dec (S - j*valD b)),.str b]=some (.ret (.int .i64 (cmpI ((S - j*valD b:Nat):Int) (valD b)))):=by have:=zc2 (dec (S - j*valD b)) b (by rw [zab]) eb (by omega);rwa [zab]at this
    simp (disch:=(first|assumption|omega|(simp only [YG,Y0,Yi,YL,Yw,Ym,YU,zK,zae,zaj]<;>omega)|fail)) only [go_sem,hcmp,hge];refine AXc.introP (fun h8=>?_) (fun h8=>?_)
    ·obtain⟨W,c1,c2,c3,c4⟩:=zf1 eb lb h8 hx;have hj9:=lt9 j (by omega);simp (disch:=(first|assumption|omega|(simp only [YG,Y0,Yi,YL,Yw,Ym,YU,zK,zae,zaj]<;>omega)|fail)) only [go_sem,c1,c2,c3,c4];refine zi (j+1) (by rw [Ya4];omega) (by rw [Ya4];omega) (Sub.of0 [(0,0)] rfl rfl ?_ ?_)
     ·simp only [go_sem,Ya4,Nat.sub_add_eq];simp only [V.int.injEq,Yan];omega
     ·simp only [go_sem]
    ·obtain⟨hj9,f1,f2⟩:=fin j hj h8;simp (disch:=(first|assumption|omega|(simp only [YG,Y0,Yi,YL,Yw,Ym,YU,zK,zae,zaj]<;>omega)|fail)) only [go_sem];refine AXa.go mixed (hΓ) (zg) (by kernel_rfl) ?_;simp (disch:=(first|assumption|omega|(simp only [YG,Y0,Yi,YL,Yw,Ym,YU,zK,zae,zaj]<;>omega)|fail)) only [go_sem];have hm:valD (a.take (i+1)) % valD b=S - j*valD b:=hq.2.1.trans f2;have hv:valD (((u::w)++[j]).map dg)=valD (a.take (i+1)) / valD b:=by rw [Yau,show [j].map dg=[dg j]from rfl,zbP,zrN hj9,hq.1,f1]
     have hwl:w.length+1=i:=h2;refine⟨⟨by simp,by omega,by omega⟩,?_⟩;refine zi (i+1,u::(w++[j])) ⟨by omega,by simp;omega,?_,hv⟩ (by dsimp only;omega) (Sub.of0 [(0,2)] rfl rfl ?_ ?_)
     ·intro x hx;rcases YA.1 hx with hx|hx
      ·exact h3 x (by rw [hx];simp)
      ·rcases Yaf.1 hx with hx|hx
       ·exact h3 x (Yz _ hx)
       ·simp at hx;omega
     ·simp only [go_sem,acV,acBt,acN,hm,YM,Ya5,Yau];simp
     ·simp only [go_sem,acV,acBt,acN,YM,Ya5,Yau];simp [nats,Yj]
   ·simp (disch:=(first|assumption|omega|(simp only [YG,Y0,Yi,YL,Yw,Ym,YU,zK,zae,zaj]<;>omega)|fail)) only [go_sem]
    (repeat refine sdC ?_);rw [ha1,zrP (by omega) hd9,hSe];have fin:∀ j,j*valD b≤S→¬valD b≤S - j*valD b→j<10∧S / valD b=j∧S % valD b=S - j*valD b:=fun j hj h8=>by
     have e1:S / valD b=j:=by refine YcH hj ?_;rw [Ya4];omega
     have e2:=Ya2 S (valD b);rw [e1,Yay]at e2;exact⟨by omega,e1,by omega⟩
    have lt9:∀ j,j*valD b+valD b≤S→j<10:=fun j hj=>by refine YaS (a:=valD b) ?_;omega
    refine AXs.loop mixed (hΓ) (zg) (fun j:Nat=>[(0,.str a),(1,.str b),(7,.sl 0 0 (w.length+1) 1 none),(8,.str (dec (S - j*valD b))),(9,.int .i64 i),(10,.int .u8 (48+(j:Int)))]) (fun _=>⟨[(0,.ty 5 (nats .u8 ((48+u)::w.map (48+·))))],1⟩) (fun j=>j*valD b≤S) (fun j=>S - j*valD b) 0 (by kernel_rfl) (by simp) (Sub.of0 [(0,0)] rfl rfl ?_ ?_) ?_
    ·simp only [go_sem,Ybm,Ybo]
    ·simp only [go_sem]
    rintro j hj;have hx:(dec (S - j*valD b)).length≤1001:=Yn (zaq (Nat.sub_le ..)) lS;have hcmp:zen [.str (dec (S - j*valD b)),.str b]=some (.ret (.int .i64 (cmpI ((S - j*valD b:Nat):Int) (valD b)))):=by have:=zc2 (dec (S - j*valD b)) b (by rw [zab]) eb (by omega);rwa [zab]at this
    simp (disch:=(first|assumption|omega|(simp only [YG,Y0,Yi,YL,Yw,Ym,YU,zK,zae,zaj]<;>omega)|fail)) only [go_sem,hcmp,hge];refine AXc.introP (fun h8=>?_) (fun h8=>?_)
    ·obtain⟨W,c1,c2,c3,c4⟩:=zf1 eb lb h8 hx;have hj9:=lt9 j (by omega);simp (disch:=(first|assumption|omega|(simp only [YG,Y0,Yi,YL,Yw,Ym,YU,zK,zae,zaj]<;>omega)|fail)) only [go_sem,c1,c2,c3,c4];refine zi (j+1) (by rw [Ya4];omega) (by rw [Ya4];omega) (Sub.of0 [(0,0)] rfl rfl ?_ ?_)
     ·simp only [go_sem,Ya4,Nat.sub_add_eq];simp only [V.int.injEq,Yan];omega
     ·simp only [go_sem]
    ·obtain⟨hj9,f1,f2⟩:=fin j hj h8;simp (disch:=(first|assumption|omega|(simp only [YG,Y0,Yi,YL,Yw,Ym,YU,zK,zae,zaj]<;>omega)|fail)) only [go_sem];refine AXa.go mixed (hΓ) (zg) (by kernel_rfl) ?_;simp (disch:=(first|assumption|omega|(simp only [YG,Y0,Yi,YL,Yw,Ym,YU,zK,zae,zaj]<;>omega)|fail)) only [go_sem];have hm:valD (a.take (i+1)) % valD b=S - j*valD b:=hq.2.1.trans f2;have hv:valD (((u::w)++[j]).map dg)=valD (a.take (i+1)) / valD b:=by rw [Yau,show [j].map dg=[dg j]from rfl,zbP,zrN hj9,hq.1,f1]
     have hwl:w.length+1=i:=h2;refine⟨⟨by simp,by omega,by omega⟩,?_⟩;refine zi (i+1,u::(w++[j])) ⟨by omega,by simp;omega,?_,hv⟩ (by dsimp only;omega) (Sub.of0 [(0,2)] rfl rfl ?_ ?_)
     ·intro x hx;rcases YA.1 hx with hx|hx
      ·exact h3 x (by rw [hx];simp)
      ·rcases Yaf.1 hx with hx|hx
       ·exact h3 x (Yz _ hx)
       ·simp at hx;omega
     ·simp only [go_sem,acV,acBt,acN,hm,YM,Ya5,Yau];simp
     ·simp only [go_sem,acV,acBt,acN,YM,Ya5,Yau];simp [nats,Yj]
 ·obtain rfl:i=a.length:=by omega
  rw [YQ]at h4 ⊢;rcases w with _|⟨u,w⟩
  ·simp at h2;omega
  simp only [go_sem,acV,acBt,acN,YM,Yb5];refine AXa.go mixed (hΓ) (zg) (by kernel_rfl) ?_;simp only [go_sem];have hwl:w.length+1=a.length:=h2;have hml:(w.map (48+·)).length=w.length:=by simp
  refine AXs.loop mixed (hΓ) (zg) (fun k:Nat=>[(7,.sl 0 0 (w.length+1) 1 none),(8,.str (dec (valD a % valD b))),(11,.int .i64 k)]) (fun _=>⟨[(0,.ty 5 (nats .u8 ((48+u)::w.map (48+·))))],1⟩) (fun k=>k≤w.length∧∀ j,j<k→(u::w).getD j 0=0) (fun k=>w.length - k) 0 (by kernel_rfl) ⟨Yk _,by intro j hj;omega⟩ (Sub.of0 [(0,0)] rfl rfl ?_ ?_) ?_
  ·simp only [go_sem]
  ·simp only [go_sem]
  rintro k ⟨k1,k2⟩;have hx:nthV (nats .u8 ((48+u)::w.map (48+·))) k=.int .u8 ((48+(u::w).getD k 0:Nat):Int):=by rw [zft _ _ _ (by simp;omega)];congr 2;have:(48+u)::w.map (48+·)=(u::w).map (48+·):=rfl;rw [this,Ya,YX,Ya,Yb (by simp;omega)];rfl
  simp (disch:=(first|assumption|omega|(simp only [YG,Y0,Yi,YL,Yw,Ym,YU,zK,zae,zaj]<;>omega)|fail)) only [go_sem,hx];refine⟨fun h=>⟨h,by omega,by omega⟩,fun h=>⟨h,by rw [hml];omega⟩,?_⟩;have hb2:(decide ((k:Int)<((w.length+1:Nat):Int) - 1)&&decide (((48+(u::w).getD k 0:Nat):Int)=48))=decide (k<w.length∧(u::w).getD k 0=0):=by
   have e1:(k:Int)<((w.length+1:Nat):Int) - 1↔k<w.length:=by omega
   have e2:((48+(u::w).getD k 0:Nat):Int)=48↔(u::w).getD k 0=0:=by omega
   simp only [e1,e2,Bool.decide_and]
  rw [hb2];refine AXc.introP (fun h6=>?_) (fun h6=>?_)
  ·simp (disch:=(first|assumption|omega|(simp only [YG,Y0,Yi,YL,Yw,Ym,YU,zK,zae,zaj]<;>omega)|fail)) only [go_sem];refine zi (k+1) ⟨by omega,fun j hj=>?_⟩ (by omega) (Sub.of0 [(0,0)] rfl rfl ?_ ?_)
   ·by_cases hjk:j<k
    ·exact k2 j hjk
    ·obtain rfl:j=k:=by omega
     exact h6.2
   ·simp only [go_sem];simp
   ·simp only [go_sem]
  have h7:k=(u::w).length - 1∨(u::w).getD k 0≠0:=by
   by_cases e:k<w.length
   ·exact .inr fun e'=>h6 ⟨e,e'⟩
   ·exact .inl (by simp;omega)
  have hq:=quo_text h3 (by simp;omega) k2 h7;rw [h4]at hq;simp (disch:=(first|assumption|omega|(simp only [YG,Y0,Yi,YL,Yw,Ym,YU,zK,zae,zaj]<;>omega)|fail)) only [go_sem];refine AXa.go mixed (hΓ) (zg) (by kernel_rfl) ?_;have hby:bytesOf (nats .u8 (((u::w).drop k).map (48+·)))=some (dec (valD a / valD b)):=by rw [ze9 fun d hd=>h3 d (Ybw hd),hq]
  have hcv:∀ P:Program,P=prog→zdn P 197 9 (.sl 0 k (w.length+1 - k) 1 none) ⟨[(0,.ty 5 (nats .u8 ((48+u)::w.map (48+·))))],1⟩=⟨True,.str (dec (valD a / valD b)),⟨[(0,.ty 5 (nats .u8 ((48+u)::w.map (48+·))))],1⟩,[0],[]⟩:=by rintro _ rfl;refine zjS 197 9 5 _ (nats .u8 (((u::w).drop k).map (48+·))) (w.length+1 - k) [0] _ (by kernel_rfl) (by kernel_rfl) (by kernel_rfl) ?_ hby;show (if _∧_ then some _ else none)=_;rw [Yf ⟨rfl,by simp [nats];omega⟩];have e:(48+u)::w.map (48+·)=(u::w).map (48+·):=rfl;rw [e,Yap,YcP];simp only [nats, ←YcP];rw [Yj (by simp)]
  simp (disch:=(first|assumption|omega|(simp only [YG,Y0,Yi,YL,Yw,Ym,YU,zK,zae,zaj]<;>omega)|fail)) only [go_sem,hcv]
  (repeat refine sdC ?_);exact YbX _
theorem zY {n:Nat}(h:(dec n).length≤1000):zD (dec n)=true:=by rw [zfW];simpa using h
theorem zrM {x y:Nat}(hx:(dec x).length≤1000)(hy:(dec y).length≤1000)(h0:0<y):divV (dec x) (dec y)=.tup [.str (dec (x / y)),.str (dec (x % y)),.int .i64 0]:=by
 have:¬y=0:=by omega
 simp only [divV,zY hx,zY hy,YbU,if_true,zab,this,if_false]
noncomputable def cRDiv:List V→Option PR:=zu (fun p:List UInt8×List UInt8=>[.str p.1,.str p.2]) (fun _=>True) (fun p=>.ret (divV p.1 p.2))
theorem zr6:∀ args r,cRDiv args=some r→PCall prog 129 args r:=zn fun p _=>rDiv_ok p.1 p.2
theorem cRDiv_eq(a b:List UInt8):cRDiv [.str a,.str b]=some (.ret (divV a b)):=zo (fun p q h=>by simp at h;exact YT h.1 h.2) (a,b) trivial
@[go_sem] theorem cRDiv_dec(x y:Nat)(hx:(dec x).length≤1000)(hy:(dec y).length≤1000)(h0:0<y):cRDiv [.str (dec x),.str (dec y)]=some (.ret (.tup [.str (dec (x / y)),.str (dec (x % y)),.int .i64 0])):=by rw [cRDiv_eq,zrM hx hy h0]
def gcdV(a b:List UInt8):V:=if zD a=true∧zD b=true then .tup [.str (dec (Nat.gcd (valD a) (valD b))),.int .i64 0]else errV 1
theorem rGcd_ok(a b:List UInt8):PCall prog 85 [.str a,.str b] (.ret (gcdV a b)):=by
 have hΓ:=zf zaR (zf zr6 zh);refine PCall.wD (rs:=[.tmp 4,.tmp 5]) [0,1,4,5,7,16,18] [] mixed (hΓ) (zg) call85 func85 rfl ntmps85 rfl ?_;by_cases ha:zD a=true
 case neg=>simp only [go_sem,gcdV,ha,errV]
 by_cases hb:zD b=true
 case neg=>simp only [go_sem,gcdV,ha,hb,errV]
 have la:=zL ha;have lb:=zL hb;have hres:gcdV a b=.tup [.str (dec (Nat.gcd (valD a) (valD b))),.int .i64 0]:=by simp only [gcdV,ha,hb,YbU,if_true]
 rw [hres];simp only [go_sem,ha,hb];have ea:=zal ha;have eb:=zal hb;generalize valD a=A at*;generalize valD b=B at*;subst ea eb;refine AXs.loop mixed (hΓ) (zg) (fun p:Nat×Nat=>[(0,.str (dec p.1)),(1,.str (dec p.2))]) (fun _=>⟨[],0⟩) (fun p=>(dec p.1).length≤1000∧(dec p.2).length≤1000∧Nat.gcd p.1 p.2=Nat.gcd A B) (fun p=>p.2) (A,B) (by kernel_rfl) ⟨la,lb,rfl⟩ (Sub.of0 [] rfl rfl ?_ ?_) ?_
 ·simp only [go_sem]
 ·simp only [go_sem]
 rintro⟨x,y⟩ ⟨h1,h2,h3⟩;dsimp only at h1 h2 h3 ⊢;have hz:decide (dec y=[48])=decide (y=0):=by simp only [dec_is_zero]
 simp (disch:=first|exact Zq|fail) only [go_sem];rw [hz];refine AXc.introN (fun h4=>?_) (fun h4=>?_)
 ·have hy:0<y:=by omega
  have hm:=YaM x hy;simp (disch:=first|exact Zq|fail) only [go_sem];refine zi (y,x % y) ⟨h2,Yn (zaq (YbA hm)) h2,?_⟩ hm (Sub.of0 [] rfl rfl ?_ ?_)
  ·rw [←h3,Nat.gcd_comm x y,Nat.gcd_rec y x,Nat.gcd_comm]
  ·simp only [go_sem]
  ·simp only [go_sem]
 ·simp only [go_sem];refine AXa.go mixed (hΓ) (zg) (by kernel_rfl) ?_;simp only [go_sem];rw [←h3,h4,YcK]
theorem gcdV_dec {x y:Nat}(hx:(dec x).length≤1000)(hy:(dec y).length≤1000):gcdV (dec x) (dec y)=.tup [.str (dec (Nat.gcd x y)),.int .i64 0]:=by simp only [gcdV,zY hx,zY hy,YbU,if_true,zab]
noncomputable def cRGcd:List V→Option PR:=zu (fun p:List UInt8×List UInt8=>[.str p.1,.str p.2]) (fun _=>True) (fun p=>.ret (gcdV p.1 p.2))
theorem zr3:∀ args r,cRGcd args=some r→PCall prog 85 args r:=zn fun p _=>rGcd_ok p.1 p.2
theorem zr4(a b:List UInt8):cRGcd [.str a,.str b]=some (.ret (gcdV a b)):=zo (fun p q h=>by simp at h;exact YT h.1 h.2) (a,b) trivial
@[go_sem] theorem cRGcd_dec(x y:Nat)(hx:(dec x).length≤1000)(hy:(dec y).length≤1000):cRGcd [.str (dec x),.str (dec y)]=some (.ret (.tup [.str (dec (Nat.gcd x y)),.int .i64 0])):=by rw [zr4,gcdV_dec hx hy]
theorem zgm {a b:List UInt8}(ha:zD a=true)(hb:zD b=true):cRGcd [.str a,.str b]=some (.ret (.tup [.str (dec (Nat.gcd (valD a) (valD b))),.int .i64 0])):=by rw [zr4,gcdV,Yf ⟨ha,hb⟩]
theorem zaM {n:Nat}:decide (dec n=[49])=decide (n=1):=by have:dec n=[49]↔n=1:=⟨fun h=>zS (h.trans (show [49]=dec 1 from rfl)),fun h=>by rw [h];rfl⟩;simp only [this]
end Go.Proofs

namespace Go.Pl
def zaE(a:List UInt8):Bool:=zD a&&decide (a.length≤400)
def zB(a:List UInt8):Bool×List UInt8×List UInt8×Bool:=
 let neg:=decide (a.getD 0 0=45)
 let r:=if neg then a.drop 1 else a
 match r.findIdx? (· ==47)with
 |some i=>(neg,r.take i,r.drop (i+1),true)
 |none=>(neg,r,[49],false)
def zbZ(neg:Bool)(n d:List UInt8)(fr:Bool):Bool:=
 zaE n&&zaE d&& !(neg&&decide (n=[48]))&& !(fr&&(decide (d=[48])||decide (d=[49])))&&decide (Nat.gcd (valD n) (valD d)=1)
def ratP(a:List UInt8):Option (Bool×Nat×Nat):=
 if zbZ (zB a).1 (zB a).2.1 (zB a).2.2.1 (zB a).2.2.2=true then some ((zB a).1,valD (zB a).2.1,valD (zB a).2.2.1)else none
def ratT(neg:Bool)(n d:Nat):List UInt8:=
 (if neg=true∧n≠0 then [45]else [])++dec n++(if d=1 then []else 47::dec d)
def zdD(n:Nat):Bool:=decide (400<(dec n).length)
theorem shortN_iff {a:List UInt8}:zaE a=true↔zD a=true∧a.length≤400:=by simp [zaE]
theorem zak {a:List UInt8}(h:zD a=true):dec (valD a)=a:=(validN_iff.1 h).1.1
theorem zhJ(a:List UInt8):(zB a).2.2.2=true∨(zB a).2.2.1=[49]:=by
 unfold zB;simp only;split
 ·exact .inl rfl
 ·exact .inr rfl
theorem zbl {a:List UInt8}{s:Bool}{n d:Nat}(h:ratP a=some (s,n,d)):
 0<d∧Nat.gcd n d=1∧(dec n).length≤400∧(dec d).length≤400:=by
 unfold ratP at h
 split at h
 case isFalse=>cases h
 case isTrue hk=>
  simp only [Yv,YbN]at h
  obtain⟨rfl,rfl,rfl⟩:=h
  simp only [zbZ,Yc,Yh]at hk
  obtain⟨⟨⟨⟨h1,h2⟩,h3⟩,h4⟩,h5⟩:=hk
  have l1:=(shortN_iff.1 h1).2
  have l2:=(shortN_iff.1 h2).2
  refine⟨?_,h5,by rw [zak (shortN_iff.1 h1).1];exact l1,by rw [zak (shortN_iff.1 h2).1];exact l2⟩
  rcases YD (valD (zB a).2.2.1)with h0|h0
  ·exfalso
   rw [h0,YcK]at h5
   have e:=zak (shortN_iff.1 h2).1
   rw [h0]at e
   have h6:(zB a).2.2.1=[48]:=by rw [←e];rfl
   rcases zhJ a with h7|h7
   ·rw [h6,h7]at h4
    simp at h4
   ·rw [h6]at h7
    cases h7
  ·exact h0
def sumS(p:Bool)(a:Nat)(q:Bool)(b:Nat):Bool×Nat:=if p=q then(p,a+b)else if b≤a then(p,a - b)else(q,b - a)
end Go.Pl

namespace Go.Pl
theorem zN {m n j k:Nat}(hm:(dec m).length≤j)(hn:(dec n).length≤k):(dec (m*n)).length≤j+k:=by have h1:=zbs hm;have h2:=zbs hn;have h3:=zdN m;refine zbM ?_ (by omega);rw [Ycn];exact Nat.mul_lt_mul'' h1 h2
theorem ze6 {m n k:Nat}(hm:(dec m).length≤k)(hn:(dec n).length≤k):(dec (m+n)).length≤k+1:=by have h1:=zbs hm;have h2:=zbs hn;refine zbM ?_ (by omega);rw [YP];generalize (10:Nat) ^ k=p at*;omega
theorem zkg {p q:Bool}{a b k:Nat}(ha:(dec a).length≤k)(hb:(dec b).length≤k):(dec (sumS p a q b).2).length≤k+1:=by
 unfold sumS;split
 ·exact ze6 ha hb
 ·split
  ·exact Yn (zaq (Nat.sub_le ..)) (by omega)
  ·exact Yn (zaq (Nat.sub_le ..)) (by omega)
theorem zze {m n k:Nat}(hn:0<n)(h:(dec n).length≤k):(dec (Nat.gcd m n)).length≤k:=Yn (zaq (Nat.gcd_le_right m hn)) h
theorem zp0 {m n k:Nat}(h:(dec m).length≤k):(dec (m / n)).length≤k:=Yn (zaq (Yck ..)) h
end Go.Pl

namespace Go.Proofs
open Go.Ab Go.Pl
theorem zyx {n:Nat}(h:(dec n).length≤1000):limV n=.tup [.str (dec n),.int .i64 0]:=Yd (by omega)
theorem zrj {x y:Nat}(hx:(dec x).length≤1000)(hy:(dec y).length≤1000)(h:(dec (x*y)).length≤1000):mulV (dec x) (dec y)=.tup [.str (dec (x*y)),.int .i64 0]:=by simp only [mulV,zY hx,zY hy,YbU,if_true,zab,zyx h]
theorem zsq {x y:Nat}(hx:(dec x).length≤1000)(hy:(dec y).length≤1000)(h:(dec (x+y)).length≤1000):addV (dec x) (dec y)=.tup [.str (dec (x+y)),.int .i64 0]:=by simp only [addV,zY hx,zY hy,YbU,if_true,zab,zyx h]
theorem zq3 {x y:Nat}(hx:(dec x).length≤1000)(hy:(dec y).length≤1000)(h:y≤x):subV (dec x) (dec y)=.tup [.str (dec (x - y)),.int .i64 0]:=by
 have:¬x<y:=by omega
 simp only [subV,zY hx,zY hy,YbU,if_true,zab,this,if_false]
theorem zrS {x y:Nat}(hx:(dec x).length≤1000)(hy:(dec y).length≤1000):cmpV (dec x) (dec y)=cmpI x y:=by simp only [cmpV,zY hx,zY hy,YbU,if_true,zab]
def mkV(neg:Bool)(n d:Nat):V:=if zdD (n / Nat.gcd n d)=true∨zdD (d / Nat.gcd n d)=true then errV 2 else .tup [.str (ratT neg (n / Nat.gcd n d) (d / Nat.gcd n d)),.int .i64 0]
def zbd(a b:List UInt8):Int:=match ratP a,ratP b with
 |some (p,m,d),some (q,n,f)=>if (sumS p (m*f) (!q) (n*d)).2=0 then 0 else if (sumS p (m*f) (!q) (n*d)).1=true then -1 else 1
 |_,_=>0
def zbv(a b:List UInt8):V:=match ratP a,ratP b with
 |some (p,m,d),some (q,n,f)=>mkV (sumS p (m*f) q (n*d)).1 (sumS p (m*f) q (n*d)).2 (d*f)
 |_,_=>errV 1
def zaJ(a b:List UInt8):V:=match ratP a,ratP b with
 |some (p,m,d),some (q,n,f)=>mkV (!(p==q)) (m*n) (d*f)
 |_,_=>errV 1
theorem zhX(neg:Bool)(n d:Nat):∃ s e,mkV neg n d=.tup [.str s,.int .i64 e]:=by unfold mkV;split<;>exact⟨_,_,rfl⟩
theorem zo7(a b:List UInt8):∃ s e,zbv a b=.tup [.str s,.int .i64 e]:=by
 unfold zbv;split
 ·exact zhX ..
 ·exact⟨_,_,rfl⟩
theorem zeX(a b:List UInt8):∃ s e,zaJ a b=.tup [.str s,.int .i64 e]:=by
 unfold zaJ;split
 ·exact zhX ..
 ·exact⟨_,_,rfl⟩
theorem zeE {a b:List UInt8}{p q:Bool}{m d n f:Nat}(ha:ratP a=some (p,m,d))(hb:ratP b=some (q,n,f)):zbd a b=if (sumS p (m*f) (!q) (n*d)).2=0 then 0 else if (sumS p (m*f) (!q) (n*d)).1=true then -1 else 1:=by unfold zbd;generalize ratP a=x at*;generalize ratP b=y at*;subst ha hb;rfl
theorem zmE {a b:List UInt8}{p q:Bool}{m d n f:Nat}(ha:ratP a=some (p,m,d))(hb:ratP b=some (q,n,f)):zbv a b=mkV (sumS p (m*f) q (n*d)).1 (sumS p (m*f) q (n*d)).2 (d*f):=by unfold zbv;generalize ratP a=x at*;generalize ratP b=y at*;subst ha hb;rfl
theorem zfr {a b:List UInt8}{p q:Bool}{m d n f:Nat}(ha:ratP a=some (p,m,d))(hb:ratP b=some (q,n,f)):zaJ a b=mkV (!(p==q)) (m*n) (d*f):=by unfold zaJ;generalize ratP a=x at*;generalize ratP b=y at*;subst ha hb;rfl
theorem ztF {a:List UInt8}(b:List UInt8)(ha:ratP a=none):zbv a b=errV 1:=by unfold zbv;generalize ratP a=x at*;subst ha;rfl
theorem ztE(a:List UInt8){b:List UInt8}(hb:ratP b=none):zbv a b=errV 1:=by unfold zbv;generalize ratP b=y at*;subst hb;cases ratP a<;>rfl
theorem zjt {a:List UInt8}(b:List UInt8)(ha:ratP a=none):zaJ a b=errV 1:=by unfold zaJ;generalize ratP a=x at*;subst ha;rfl
theorem zjs(a:List UInt8){b:List UInt8}(hb:ratP b=none):zaJ a b=errV 1:=by unfold zaJ;generalize ratP b=y at*;subst hb;cases ratP a<;>rfl
theorem zmD {a:List UInt8}(b:List UInt8)(ha:ratP a=none):zbd a b=0:=by unfold zbd;generalize ratP a=x at*;subst ha;rfl
theorem zmC(a:List UInt8){b:List UInt8}(hb:ratP b=none):zbd a b=0:=by unfold zbd;generalize ratP b=y at*;subst hb;cases ratP a<;>rfl
def resP:V→List UInt8×Int
 | .tup [.str s,.int .i64 e]=>(s,e)
 |_=>([],0)
theorem zfo(s:List UInt8)(e:Int):resP (.tup [.str s,.int .i64 e])=(s,e):=rfl
theorem zgT(e:Int):resP (errV e)=([],e):=rfl
theorem ratT_len {neg:Bool}{n d:Nat}(hn:(dec n).length≤400)(hd:(dec d).length≤400):(ratT neg n d).length≤1000:=by unfold ratT;simp only [Yi];split<;>split<;>simp only [Ym,YU]<;>omega
theorem zyh(neg:Bool)(n d:Nat):(resP (mkV neg n d)).1.length≤1000:=by
 unfold mkV;split
 ·rw [zgT];simp
 ·rename_i h;have h':¬(400<(dec (n / Nat.gcd n d)).length∨400<(dec (d / Nat.gcd n d)).length):=by simpa [zdD] using h
  exact ratT_len (by omega) (by omega)
theorem zo8(a b:List UInt8):(resP (zbv a b)).1.length≤1000:=by
 unfold zbv;split
 ·exact zyh ..
 ·rw [zgT];simp
theorem zo6(a b:List UInt8):(resP (zaJ a b)).1.length≤1000:=by
 unfold zaJ;split
 ·exact zyh ..
 ·rw [zgT];simp
end Go.Proofs

namespace Go.Ab
def zgo(f:V→V→Bool):List V→List V→Bool
 |[],[]=>true
 |a::r,b::s=>f a b&&zgo f r s
 |_,_=>false
def beqN:Nat→V→V→Bool
 |0,_,_=>false
 |n+1,x,y=>
  match x,y with
  | .bool a,.bool b=>a==b
  | .int k a,.int k' b=>decide (k=k')&&decide (a=b)
  | .str a,.str b=>decide (a=b)
  | .nilS,.nilS=>true
  | .sl b o l s c,.sl b' o' l' s' c'=>Nat.beq b b'&&Nat.beq o o'&&Nat.beq l l'&&Nat.beq s s'&&decide (c=c')
  | .fs cs n1,.fs cs' n2=>Nat.beq n1 n2&&zgo (beqN n) cs cs'
  | .nilP,.nilP=>true
  | .ptr b o,.ptr b' o'=>Nat.beq b b'&&Nat.beq o o'
  | .fp cs,.fp cs'=>zgo (beqN n) cs cs'
  | .nilM,.nilM=>true
  | .map b,.map b'=>Nat.beq b b'
  | .fn f cs,.fn f' cs'=>Nat.beq f f'&&zgo (beqN n) cs cs'
  | .bnd f cs,.bnd f' cs'=>Nat.beq f f'&&zgo (beqN n) cs cs'
  | .nilF,.nilF=>true
  | .ifc t v,.ifc t' v'=>Nat.beq t t'&&beqN n v v'
  | .nilI,.nilI=>true
  | .agg cs,.agg cs'=>zgo (beqN n) cs cs'
  | .tup cs,.tup cs'=>zgo (beqN n) cs cs'
  | .any,.any=>true
  | .opt b v,.opt b' v'=>(b==b')&&beqN n v v'
  |_,_=>false
def beqV(x y:V):Bool:=beqN 12 x y
def beqVs(l r:List V):Bool:=zgo (beqN 12) l r
theorem zqw {f:V→V→Bool}(hf:∀ a b,f a b=true→a=b):∀ {l r:List V},zgo f l r=true→l=r
 |[],r,h=>by cases r<;>simp [zgo]at h;rfl
 |a::l,r,h=>by
  cases r with
  |nil=>simp [zgo]at h
  |cons b s=>simp [zgo]at h;rw [hf a b h.1,zqw hf h.2]
theorem zqv:∀(n:Nat) (a b:V),beqN n a b=true→a=b
 |0,a,b,h=>by simp [beqN]at h
 |n+1,a,b,h=>by
  have ih:=zqv n;have il:∀ {l r:List V},zgo (beqN n) l r=true→l=r:=zqw ih;unfold beqN at h;split at h<;>(try simp only [Yc,YaR,Yh,beq_iff_eq]at h)<;>first
   |rfl
   |(rw [h];done)
   |(rw [h.1,h.2];done)
   |(rw [h.1,il h.2];done)
   |(rw [il h];done)
   |(rw [h.1,ih _ _ h.2];done)
   |(simp [h];done)
   |(cases h;done)
theorem ziz {a b:V}(h:beqV a b=true):a=b:=zqv _ _ _ h
theorem zsl {l r:List V}(h:beqVs l r=true):l=r:=zqw (zqv _) h
def zvQ:List (Nat×V×V)→List (Nat×V×V)→Bool
 |[],[]=>true
 |a::r,b::s=>Nat.beq a.1 b.1&&beqV a.2.1 b.2.1&&beqV a.2.2 b.2.2&&zvQ r s
 |_,_=>false
theorem zsm:∀ {a b:List (Nat×V×V)},zvQ a b=true→a=b
 |[],b,h=>by cases b<;>simp [zvQ]at h;rfl
 |(n,x,y)::r,b,h=>by
  cases b with
  |nil=>simp [zvQ]at h
  |cons q s=>obtain⟨m,x',y'⟩:=q;simp [zvQ]at h;rw [h.1.1.1,ziz h.1.1.2,ziz h.1.2,zsm h.2]
def beqB:Blk→Blk→Bool
 | .cells cs,.cells cs'=>beqVs cs cs'
 | .mp es c,.mp es' c'=>Nat.beq c c'&&zvQ es es'
 | .it m bs l s t c,.it m' bs' l' s' t' c'=>decide (m=m'∧bs=bs'∧l=l'∧s=s'∧t=t'∧c=c')
 | .ty t cs,.ty t' cs'=>Nat.beq t t'&&beqVs cs cs'
 |_,_=>false
theorem beqB_eq {a b:Blk}(h:beqB a b=true):a=b:=by
 cases a<;>cases b<;>simp [beqB]at h
 ·rw [zsl h]
 ·rw [h.1,zsm h.2]
 ·obtain⟨h1,h2,h3,h4,h5,h6⟩:=h;rw [h1,h2,h3,h4,h5,h6]
 ·rw [h.1,zsl h.2]
def zqx:List (Nat×Blk)→List (Nat×Blk)→Bool
 |[],[]=>true
 |a::r,b::s=>Nat.beq a.1 b.1&&beqB a.2 b.2&&zqx r s
 |_,_=>false
theorem zsn:∀ {a b:List (Nat×Blk)},zqx a b=true→a=b
 |[],b,h=>by cases b<;>simp [zqx]at h;rfl
 |(n,x)::r,b,h=>by
  cases b with
  |nil=>simp [zqx]at h
  |cons q s=>obtain⟨m,x'⟩:=q;simp [zqx]at h;rw [h.1.1,beqB_eq h.1.2,zsn h.2]
end Go.Ab
