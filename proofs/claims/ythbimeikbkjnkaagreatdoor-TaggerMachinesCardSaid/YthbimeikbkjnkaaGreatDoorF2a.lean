/- The reference's natural numbers: which strings are numbers; digits; text. -/
import Derived.Test.YthbimeikbkjnkaaGreatDoorPlNat
import Derived.Test.YthbimeikbkjnkaaGreatDoorAbIn
set_option linter.all false
set_option maxHeartbeats 16000000
set_option maxRecDepth 100000
namespace Go.Proofs
open Tryz Go.Ab Go.Pl
theorem ztg(a:List UInt8):PCall prog 128 [.str a] (.ret (.bool (zD a))):=by
 refine PCall.wD (rs:=[.tmp 2]) [0,2,3,21,25,37] [] mixed (zh) (zg) call128 func128 rfl ntmps128 rfl ?_;simp only [go_sem];have hb:(decide ((a.length:Int)<1)||decide (1000<(a.length:Int))||decide (((a.getD 0 0).toNat:Int)=48)&&decide (1<(a.length:Int)))= !(!decide (a=[])&&decide (a.length≤1000)&&(decide (a.length≤1)|| !decide ((a.getD 0 0).toNat=48))):=by
  have e1:(a.length:Int)<1↔a=[]:=by rw [←List.length_eq_zero_iff];omega
  have e2:1000<(a.length:Int)↔¬a.length≤1000:=by omega
  have e3:((a.getD 0 0).toNat:Int)=48↔(a.getD 0 0).toNat=48:=by omega
  have e4:1<(a.length:Int)↔¬a.length≤1:=by omega
  simp only [e1,e2,e3,e4];by_cases c1:a=[]<;>by_cases c2:a.length≤1000<;>by_cases c3:(a.getD 0 0).toNat=48<;>by_cases c4:a.length≤1<;>simp only [c1,c2,c3,c4,Ybx,Yb0]<;>rfl
 refine⟨fun h=>⟨h,?_⟩,fun h=>⟨h,fun h'=>by rw [h,h'];rfl⟩,?_⟩
 ·simp at h;omega
 rw [hb];cases hc:(!decide (a=[])&&decide (a.length≤1000)&&(decide (a.length≤1)|| !decide ((a.getD 0 0).toNat=48)))with
 |false=>simp only [go_sem];simp only [zD,hc,Y7]
 |true=>
  have hl:a.length≤1000:=by simp at hc;omega
  simp only [go_sem];refine AXs.loop mixed (zh) (zg) (fun i:Nat=>[(0,.str a),(3,.int .i64 i)]) (fun _=>⟨[],0⟩) (fun i=>i≤a.length∧∀ j,j<i→zaV (a.getD j 0)=true) (fun i=>a.length - i) 0 (by kernel_rfl) (by simp) (Sub.of0 [] rfl rfl ?_ ?_) ?_
  ·simp only [go_sem]
  ·simp only [go_sem]
  rintro i ⟨h1,h2⟩;simp only [go_sem];refine AXc.introP (fun h3=>?_) (fun h3=>?_)
  ·simp (disch:=first|exact Zq|fail) only [go_sem]
   (repeat refine sdC ?_);have hd:(decide (((a.getD i 0).toNat:Int)<48)||decide (57<((a.getD i 0).toNat:Int)))= !zaV (a.getD i 0):=by
    unfold zaV;have e1:((a.getD i 0).toNat:Int)<48↔¬48≤(a.getD i 0).toNat:=by omega
    have e2:57<((a.getD i 0).toNat:Int)↔¬(a.getD i 0).toNat≤57:=by omega
    simp only [e1,e2];by_cases c1:48≤(a.getD i 0).toNat<;>by_cases c2:(a.getD i 0).toNat≤57<;>simp only [c1,c2,Ybx,Yb0]<;>rfl
   rw [hd];cases hg:zaV (a.getD i 0)with
   |false=>
    simp only [go_sem];have:a.all zaV=false:=by
     cases e:a.all zaV with
     |false=>rfl
     |true=>rw [all_getD.1 e i (by omega)]at hg;cases hg
    simp only [zD,this,YaQ]
   |true=>
    simp (disch:=first|exact Zq|fail) only [go_sem];refine zi (i+1) ⟨by omega,fun j hj=>?_⟩ (by omega) (Sub.of0 [] rfl rfl ?_ ?_)
    ·by_cases hji:j<i
     ·exact h2 j hji
     ·obtain rfl:j=i:=by omega
      exact hg
    ·simp only [go_sem];simp
    ·simp only [go_sem]
  ·simp only [go_sem];refine AXa.go mixed (zh) (zg) (by kernel_rfl) ?_;simp only [go_sem];have:a.all zaV=true:=all_getD.2 fun i hi=>h2 i (by omega);simp only [zD,this,hc,Yaw]
noncomputable def zrZ:List V→Option PR:=zu (fun a:List UInt8=>[.str a]) (fun _=>True) fun a=>.ret (.bool (zD a))
theorem zqh(a:List UInt8):zrZ [.str a]=some (.ret (.bool (zD a))):=zo (pat:=fun a:List UInt8=>[.str a]) (fun x y h=>by simpa using h) a trivial
theorem zaR:∀ args r,zrZ args=some r→PCall prog 128 args r:=zn fun a _=>ztg a
attribute [go_sem] zqh
def digD(a:List UInt8):List Nat:=a.reverse.map fun c=>c.toNat - 48
theorem zcw(a:List UInt8):(digD a).length=a.length:=by simp [digD]
theorem zzD(a:List UInt8)(m:Nat)(h:m<a.length):digD (a.drop m)=digD (a.drop (m+1))++[(a.getD m 0).toNat - 48]:=by
 have:a.drop m=a.getD m 0::a.drop (m+1):=by rw [Ya,Yb h];exact YaV h
 rw [this,digD,Ycr,Yau];rfl
theorem zc0:∀ a:List UInt8,Ten.valL (digD a)=valD a:=by
 have key:∀ l:List UInt8,Ten.valL (l.map fun c=>c.toNat - 48)=valD l.reverse:=by
  intro l;induction l with
  |nil=>rfl
  |cons c l ih=>rw [YM,Ten.valL,ih,Ycr,zbP];omega
 intro a;have:=key a.reverse;rw [List.reverse_reverse]at this;exact this
theorem zek {a:List UInt8}(h:a.all zaV=true):Ten.okL (digD a):=fun d hd=>by obtain⟨c,hc,rfl⟩:=Yab.1 hd;have:=zbE (Yg.1 h c (by simpa using hc));omega
def acV(l:List Nat):V:=match l with|[]=>.nilS|_=>.sl 0 0 l.length 1 none
def acBs(k:IntKind)(l:List Nat):List (Nat×Blk):=match l with|[]=>[]|_=>[(0,.cells (nats k l))]
def acN(l:List Nat):Nat:=match l with|[]=>0|_=>1
theorem ztC(a:List UInt8)(hd:a.all zaV=true)(hl:a.length≤100000):PCall prog 130 [.str a] (.ret (.fs (nats .i64 (digD a)) a.length)):=by
 refine PCall.wD (rs:=[.tmp 2]) [0,2,3,4,9] [] mixed (zh) (zg) call130 func130 rfl ntmps130 rfl ?_;simp only [go_sem];refine AXs.loop mixed (zh) (zg) (fun m:Nat=>[(0,.str a),(3,acV (digD (a.drop m))),(4,.int .i64 ((m:Int) - 1))]) (fun m=>⟨acBs .i64 (digD (a.drop m)),acN (digD (a.drop m))⟩) (fun m=>m≤a.length) (fun m=>m) a.length (by kernel_rfl) (Ye _) (Sub.of0 [] rfl ?_ ?_ ?_) ?_
 ·rw [List.drop_length];rfl
 ·simp (disch:=first|exact Zq|fail) only [go_sem,List.drop_length,digD,List.reverse_nil,acV]
 ·simp only [go_sem,List.drop_length,digD,List.reverse_nil,acBs]
 intro m h1;simp only [go_sem];have hl':(digD (a.drop m)).length=a.length - m:=by rw [zcw];simp
 rcases YD m with rfl|h0
 ·simp only [go_sem];rw [Y2]at hl';have e0:a.length=(digD a).length:=by omega
  rw [e0];generalize digD a=l;rcases l with _|⟨d,l⟩
  ·simp only [go_sem,acV,acBs,acN];refine AXa.go mixed (zh) (zg) (by kernel_rfl) ?_;simp only [go_sem]
  ·simp only [go_sem,acV,acBs,acN];refine AXa.go mixed (zh) (zg) (by kernel_rfl) ?_;simp only [go_sem];exact Frz.slp rfl rfl (by simp [zK]) (by simp [zbR]) (zat _ _)
 ·have hm:m - 1<a.length:=by omega
  have hdr:=zzD a (m - 1) hm;rw [show m - 1+1=m by omega]at hdr;have hdi:=zbE (all_getD.1 hd (m - 1) hm);have c0:¬((m:Int) - 1<0):=by omega
  have c1:decide (0≤(m:Int) - 1)=true:=YB (by omega);have c2:((m:Int) - 1).toNat=m - 1:=by omega
  have hx:((a.getD (m - 1) 0).toNat:Int) - 48=(((a.getD (m - 1) 0).toNat - 48:Nat):Int):=by omega
  generalize digD (a.drop m)=l at hdr hl' ⊢;rcases l with _|⟨d,l⟩
  ·simp (disch:=first|exact Zq|fail) only [go_sem,acV,acBs,acN,c1,c2,hx]
   (repeat refine sdC ?_);refine zi (m - 1) (by omega) (by omega) (Sub.of0 [(0,1)] rfl (by rw [hdr];rfl) ?_ ?_)
   ·rw [hdr];simp only [go_sem,acV,acBs,acN];simp only [V.int.injEq,Yan];omega
   ·rw [hdr];simp only [go_sem,acV,acBs,acN];simp [nats]
  ·simp (disch:=first|exact Zq|fail) only [go_sem,acV,acBs,acN,c1,c2,hx];have hll:l.length+1=a.length - m:=hl'
   (repeat refine sdC ?_);refine zi (m - 1) (by omega) (by omega) (Sub.of0 [(0,2)] rfl (by rw [hdr];rfl) ?_ ?_)
   ·rw [hdr];simp only [go_sem,acV,acBs,acN];simp;omega
   ·rw [hdr];simp only [go_sem,acV,acBs,acN];simp [nats]
noncomputable def zeJ:List V→Option PR:=zu (fun a:List UInt8=>[.str a]) (fun a=>a.all zaV=true∧a.length≤100000) fun a=>.ret (.fs (nats .i64 (digD a)) a.length)
theorem zcN(a:List UInt8)(h:a.all zaV=true)(hl:a.length≤100000):zeJ [.str a]=some (.ret (.fs (nats .i64 (digD a)) a.length)):=zo (pat:=fun a:List UInt8=>[.str a]) (fun x y h=>by simpa using h) a ⟨h,hl⟩
theorem zb7:∀ args r,zeJ args=some r→PCall prog 130 args r:=zn fun a h=>ztC a h.1 h.2
attribute [go_sem] zcN
end Go.Proofs

namespace Go.Pl
def dg(d:Nat):UInt8:=UInt8.ofNat (48+d)
theorem dg_isDig {d:Nat}(h:d<10):zaV (dg d)=true:=by have:=zbx h;unfold zaV dg;rw [this];simp;omega
theorem zrN {d:Nat}(h:d<10):(dg d).toNat - 48=d:=by have:=zbx h;unfold dg;omega
theorem zqV:∀ {l:List Nat},Ten.okL l→valD (l.reverse.map dg)=Ten.valL l
 |[],_=>rfl
 |d::l,h=>by have h1:d<10:=h d (YF ..);have h2:Ten.okL l:=fun x hx=>h x (Yz _ hx);rw [Ycr,Yau,YM,Ya5,zbP,zqV h2,zrN h1,Ten.valL];omega
theorem zzE {l:List Nat}(h:Ten.okL l):(l.map dg).all zaV=true:=Yg.2 fun c hc=>by obtain⟨d,hd,rfl⟩:=Yab.1 hc;exact dg_isDig (h d hd)
theorem zdu:∀ {l:List Nat} {n:Nat},n≤l.length→(∀ j,n≤j→l.getD j 0=0)→Ten.valL (l.take n)=Ten.valL l
 |[],_,_,_=>by simp
 |d::l,0,_,h=>by
  have hd:d=0:=h 0 (Ye _);have:=zdu (l:=l) (n:=0) (Yk _) fun j hj=>by have:=h (j+1) (by omega);simpa using this
  rw [Ybk]at this ⊢;show Ten.valL []=d+10*Ten.valL l;rw [←this,hd];rfl
 |d::l,n+1,hn,h=>by rw [YbS,Ten.valL,Ten.valL,zdu (by simpa using hn) fun j hj=>by have:=h (j+1) (by omega);simpa using this]
theorem zrf {l:List Nat}(h:Ten.okL l)(n:Nat):Ten.okL (l.take n):=fun d hd=>h d (Ybh hd)
theorem ten_text {l:List Nat}{n:Nat}(ok:Ten.okL l)(hn:n≤l.length)(hz:∀ j,n≤j→l.getD j 0=0)(h1:n≤1∨l.getD (n - 1) 0≠0)(h0:0<n):(l.take n).reverse.map dg=dec (Ten.valL l):=by
 have hv:valD ((l.take n).reverse.map dg)=Ten.valL l:=(zqV (zrf ok n)).trans (zdu hn hz);have hl:((l.take n).reverse.map dg).length=n:=by simp;omega
 rw [←hv];refine(zg7 ?_ ?_ ?_).symm
 ·rw [List.map_reverse,List.all_reverse];exact zzE (zrf ok n)
 ·intro e;rw [e]at hl;simp at hl;omega
 ·rw [hl];rcases h1 with h1|h1
  ·exact .inl h1
  ·right;have e:((l.take n).reverse.map dg).getD 0 0=dg (l.getD (n - 1) 0):=by rw [Ya,YX,List.getElem?_reverse (by simp;omega),Yb2,YG,YaK hn,Yf (by omega),Ya];rw [Ybo,Yb (by omega)];rfl
   have hlt:l.getD (n - 1) 0<10:=by rw [Ya,Yb (by omega)];exact ok _ (YZ _)
   rw [e];have:=zbx hlt;unfold dg;omega
theorem zik {α:Type}(l:List α)(i:Nat)(d:α)(h:i<l.length):l.drop i=l.getD i d::l.drop (i+1):=by rw [Ya,Yb h];exact YaV h
theorem zjf {a b:List UInt8}{i:Nat}(ha:a.all zaV=true)(hb:b.all zaV=true)(hl:a.length=b.length)(hi:i<a.length)(ht:a.take i=b.take i)(h:a.getD i 0<b.getD i 0):valD a<valD b:=by
 have ea:a=a.take i++(a.getD i 0::a.drop (i+1)):=by rw [←zik a i 0 hi,YaP]
 have eb:b=b.take i++(b.getD i 0::b.drop (i+1)):=by rw [←zik b i 0 (by omega),YaP]
 have h1:valD (a.drop (i+1))<10 ^ (a.drop (i+1)).length:=zhm (Yg.2 fun c hc=>Yg.1 ha c (Ybw hc));have hlen:(b.drop (i+1)).length=(a.drop (i+1)).length:=by simp;omega
 have da:=zbE (all_getD.1 ha i hi);have db:=zbE (all_getD.1 hb i (by omega));have hlt:(a.getD i 0).toNat<(b.getD i 0).toNat:=Ya9.1 h;have e1:valD a=10 ^ ((a.drop (i+1)).length+1)*valD (a.take i)+(10 ^ (a.drop (i+1)).length*((a.getD i 0).toNat - 48)+valD (a.drop (i+1))):=by have:=Ya6 valD ea;rw [zb3,zbQ,Ym]at this;exact this
 have e2:valD b=10 ^ ((a.drop (i+1)).length+1)*valD (a.take i)+(10 ^ (a.drop (i+1)).length*((b.getD i 0).toNat - 48)+valD (b.drop (i+1))):=by have:=Ya6 valD eb;rw [zb3,zbQ,Ym,hlen, ←ht]at this;exact this
 rw [e1,e2];have h2:10 ^ (a.drop (i+1)).length*((a.getD i 0).toNat - 48+1)≤10 ^ (a.drop (i+1)).length*((b.getD i 0).toNat - 48):=Y3 _ (by omega);rw [YK,Yap]at h2;omega
theorem zdM {m n:Nat}(h:(dec m).length<(dec n).length):m<n:=by refine Nat.lt_of_not_le fun hle=>?_;have h1:=zbs (Ye (dec m).length);have h2:=zbM (n:=n) (k:=(dec m).length) (by omega) (zdN m);omega
def zt3(a b c:Nat):Nat×Nat:=if a<b+c then(a+10 - b - c,1)else(a - b - c,0)
theorem lessF_eq {a b c:Nat}(ha:a<10)(hb:b<10)(hc:c≤1):zt3 a b c=Ten.minusF a b c:=by
 unfold zt3 Ten.minusF;split
 ·have e1:(a+10 - b - c) % 10=a+10 - b - c:=Ycd (by omega);have e2:(a+10 - b - c) / 10=0:=Ycc (by omega);rw [e1,e2]
 ·have e1:(a+10 - b - c) % 10=a - b - c:=by omega
  have e2:(a+10 - b - c) / 10=1:=by omega
  rw [e1,e2]
theorem zrt {x y:List Nat}(hx:Ten.okL x)(hy:Ten.okL y)(hl:y.length≤x.length)(hle:Ten.valL y≤Ten.valL x):
 Ten.valL (Ten.eachR Ten.minusF x y x.length).1=Ten.valL x - Ten.valL y∧Ten.okL (Ten.eachR Ten.minusF x y x.length).1:=by
 have h:=Ten.minus_inv x y hx hy x.length
 rw [YQ,Yj hl]at h
 have ok:Ten.okL (Ten.eachR Ten.minusF x y x.length).1:=Ten.okL_each (fun a b c=>Ten.minusF_ok a b c) _
 have hlt:=Ten.valL_lt ok
 rw [Ten.eachR_len]at hlt
 refine⟨?_,ok⟩
 rcases YD (Ten.eachR Ten.minusF x y x.length).2 with h0|h0
 ·rw [h0,YY]at h;omega
 ·have:10 ^ x.length*1≤10 ^ x.length*(Ten.eachR Ten.minusF x y x.length).2:=Y3 _ h0
  omega
theorem add_val {x y:List Nat}{n:Nat}(hx:Ten.okL x)(hy:Ten.okL y)(h1:x.length<n)(h2:y.length<n):
 Ten.valL (Ten.eachR Ten.plusF x y n).1=Ten.valL x+Ten.valL y∧Ten.okL (Ten.eachR Ten.plusF x y n).1:=by
 have ok:∀ i,Ten.okL (Ten.eachR Ten.plusF x y i).1:=fun i=>Ten.okL_each (fun a b c=>Ten.plusF_ok a b c) _
 obtain⟨m,rfl⟩:∃ m,n=m+1:=⟨n - 1,by omega⟩
 have h:=Ten.plus_inv x y (m+1)
 rw [Yj (by omega),Yj (by omega)]at h
 refine⟨?_,ok _⟩
 have hxl:=Ten.valL_lt hx
 have hyl:=Ten.valL_lt hy
 have p1:(10:Nat) ^ x.length≤10 ^ m:=YI (by omega) (by omega)
 have p2:(10:Nat) ^ y.length≤10 ^ m:=YI (by omega) (by omega)
 have p3:(10:Nat) ^ (m+1)=10 ^ m*10:=YP ..
 rcases YD (Ten.eachR Ten.plusF x y (m+1)).2 with h0|h0
 ·rw [h0,YY]at h;omega
 ·have:10 ^ (m+1)*1≤10 ^ (m+1)*(Ten.eachR Ten.plusF x y (m+1)).2:=Y3 _ h0
  omega
end Go.Pl

namespace Go.Proofs
open Tryz Go.Ab Go.Pl
set_option pp.maxSteps 40000 in
theorem valid_ok(a:List UInt8):PCall prog 150 [.str a] (.ret (.bool (zD a))):=by
 refine PCall.wD (rs:=[.tmp 2]) [0,2,3,20,22,23,24,35] [] mixed (zh) (zg) call150 func150 rfl ntmps150 rfl ?_;simp only [go_sem];refine⟨by simp_all;omega,by simp_all,AXc.intro (fun h1=>?_) (fun h1=>?_)⟩
 ·simp only [go_sem];simp only [zD];by_cases h0:a=[]
  ·simp [h0]
  ·by_cases h2:1000<a.length
   ·simp [Nat.not_le.2 h2]
   ·simp [h0,h2]at h1;have h3:¬a.length≤1:=by omega
    simp [h3,h1];omega
 ·simp only [go_sem];refine AXs.loop mixed zh zg (fun i:Nat=>[(0,.str a),(2,.bool false),(22,.int .i64 a.length),(23,.int .i64 i)]) (fun _=>⟨[],0⟩) (fun i=>i≤a.length∧∀ j,j<i→zaV (a.getD j 0)=true) (fun i=>a.length - i) 0 (by kernel_rfl) (by simp) (Sub.of0 [] rfl rfl ?_ ?_) ?_
  ·simp only [go_sem]
  ·simp only [go_sem]
  rintro i ⟨hi,hd⟩;simp only [go_sem];refine AXc.introP (fun h2=>?_) (fun h2=>?_)
  ·have h2':i<a.length:=by omega
   have h3:a.length≤1000:=by simp at h1;omega
   simp only [go_sem];refine⟨by omega,by simp;omega,AXc.intro (fun h4=>?_) (fun h4=>?_)⟩
   ·simp only [go_sem];symm;simp only [zD,YbJ];right;rw [Bool.eq_false_iff];intro hall;have:=all_getD.1 hall i h2';simp [zaV]at this h4;omega
   ·simp (disch:=first|exact Zq|fail) only [go_sem];refine zi (i+1) ⟨by omega,fun j hj=>?_⟩ (by omega) (Sub.of0 [] rfl rfl ?_ ?_)
    ·by_cases hji:j=i
     ·subst hji;simp [zaV]at h4 ⊢;omega
     ·exact hd j (by omega)
    ·simp only [go_sem];simp
    ·simp only [go_sem]
  ·simp only [go_sem];refine AXa.go mixed (zh) (zg) (by kernel_rfl) ?_;simp only [go_sem];symm;have hie:i=a.length:=by omega
   subst hie;have:=all_getD.2 hd;simp [zD,this];simp at h1;refine⟨⟨h1.1.1,by omega⟩,?_⟩;by_cases h5:a.length≤1
   ·exact .inl h5
   ·exact .inr (by omega)
theorem trim_ok(l:List Nat)(hl:l.length≤1000000):PCall prog 153 [.fs (nats .u64 l) l.length] (.ret (.fs (nats .u64 (zav l)) (zav l).length)):=by
 refine PCall.wD (rs:=[.tmp 2]) [0,2,14] [] mixed (zh) (zg) zz8 func153 rfl ntmps153 rfl ?_;simp only [go_sem];refine AXs.loop mixed zh zg (fun n:Nat=>[(0,.fs (nats .u64 (l.take n)) n)]) (fun _=>⟨[],0⟩) (fun n=>n≤l.length∧∀ j,n≤j→l.getD j 0=0) (fun n=>n) l.length (by kernel_rfl)
  ⟨Ye _,fun j hj=>by simp [Ya,Ys hj]⟩ (Sub.of0 [] rfl rfl ?_ ?_) ?_
 ·simp only [go_sem];simp
 ·simp only [go_sem]
 rintro n ⟨hn,hz⟩;rcases YD n with rfl|hp
 ·simp only [go_sem];refine AXa.go mixed zh zg (by kernel_rfl) ?_;simp only [go_sem];have:=zdb (Yk l.length) hz (.inl rfl);simp [this,nats]
 ·have hd:decide (0<(n:Int))=true:=by simp;omega
  simp (disch:=first|exact Zq|fail) only [go_sem,hd];refine⟨by omega,by omega,AXc.introP (fun h1=>?_) (fun h1=>?_)⟩
  ·simp (disch:=first|exact Zq|fail) only [go_sem];refine⟨by omega,zi (n - 1) ⟨by omega,fun j hj=>?_⟩ (by omega) (Sub.of0 [] rfl rfl ?_ ?_)⟩
   ·by_cases hjn:j=n - 1
    ·subst hjn;omega
    ·exact hz j (by omega)
   ·simp only [go_sem];rw [YaK (by omega)]
   ·simp only [go_sem]
  ·simp only [go_sem];refine AXa.go mixed zh zg (by kernel_rfl) ?_;simp only [go_sem];have h2:=zdb hn hz (.inr (by omega));rw [h2];simp;omega
noncomputable def cValid:List V→Option PR:=zu (fun a:List UInt8=>[.str a]) (fun _=>True) fun a=>.ret (.bool (zD a))
theorem zAf(a:List UInt8):cValid [.str a]=some (.ret (.bool (zD a))):=zo (pat:=fun a:List UInt8=>[.str a]) (fun x y h=>by simpa using h) a trivial
theorem zcM:∀ args r,cValid args=some r→PCall prog 150 args r:=zn fun a _=>valid_ok a
noncomputable def cTrim:List V→Option PR:=zu (fun l:List Nat=>[.fs (nats .u64 l) l.length]) (fun l=>l.length≤1000000) fun l=>.ret (.fs (nats .u64 (zav l)) (zav l).length)
theorem zrU(l:List Nat)(n:Nat)(hn:n=l.length)(h:l.length≤1000000):cTrim [.fs (nats .u64 l) n]=some (.ret (.fs (nats .u64 (zav l)) (zav l).length)):=by subst hn;exact zo (pat:=fun l:List Nat=>[.fs (nats .u64 l) l.length]) (fun x y h=>by simp at h;exact zax h.1) l h
theorem zAg:cTrim [.fs [] 0]=some (.ret (.fs [] 0)):=zrU [] 0 rfl (by simp)
theorem zcg:∀ args r,cTrim args=some r→PCall prog 153 args r:=zn trim_ok
attribute [go_sem] zAf zrU zAg
theorem okL_snoc {l:List Nat}{d:Nat}(h:okL l)(hd:d<1000000000):okL (l++[d]):=okL_append.2 ⟨h,fun x hx=>by simp at hx;omega⟩
def bkV(l:List Nat):V:=match l with|[]=>.nilS|_=>.sl 0 0 l.length 1 none
def bkBs(l:List Nat):List (Nat×Blk):=match l with|[]=>[]|_=>[(0,.cells (nats .u64 l))]
def bkN(l:List Nat):Nat:=match l with|[]=>0|_=>1
theorem bk_v(l:List Nat):Rn (piL []) (· <bkN l) (bkV l) (bkV l):=by cases l<;>simp only [bkV,bkN,go_sem]<;>simp
theorem bk_h(l:List Nat):subH (piL []) (bkN l) (bkBs l) (bkBs l):=by cases l<;>simp only [bkBs,bkN,go_sem]<;>simp
theorem bk_k(l:List Nat):piOK [] 0 (keysB (bkBs l))=true:=by cases l<;>rfl
theorem zBq(a:List UInt8)(hd:a.all zaV=true)(hl:a.length≤1000):PCall prog 151 [.str a] (.ret (.fs (nats .u64 (limbs (valD a))) (limbs (valD a)).length)):=by
 refine PCall.wD (rs:=[.tmp 2]) [0,2,3,4,5,6,9,18] [] mixed (zf zcg zh) (zg) call151 func151 rfl ntmps151 rfl ?_;simp only [go_sem];refine AXs.loop mixed (zf zcg zh) zg (fun(p:List Nat×Nat)=>[(0,.str (a.take p.2)),(3,bkV p.1)]) (fun p=>⟨bkBs p.1,bkN p.1⟩) (fun p=>p.2≤a.length∧okL p.1∧p.1.length+p.2≤1000∧valL p.1+1000000000 ^ p.1.length*valD (a.take p.2)=valD a) (fun p=>p.2) ([],a.length) (by kernel_rfl)
  ⟨Ye _,(show okL []from fun d hd=>nomatch hd),by simpa using hl,by simp [valL]⟩ (Sub.of0 [] rfl rfl ?_ ?_) ?_
 ·simp only [go_sem,YQ,bkV]
 ·simp only [go_sem,bkBs]
 rintro⟨l,m⟩ ⟨hm,ho,hlm,hv⟩;dsimp only at hm ho hlm hv ⊢;have hmin:min m a.length=m:=YaK hm;simp (disch:=first|exact Zq|fail) only [go_sem,hmin];refine AXc.introP (fun h1=>?_) (fun h1=>?_)
 ·have hc:maxI 0 ((m:Int) - 9)=((m - 9:Nat):Int):=by unfold maxI;split<;>omega
  simp (disch:=first|exact Zq|fail) only [go_sem,hmin,hc];refine AXs.loop mixed (zf zcg zh) zg (fun i:Nat=>[(0,.str (a.take m)),(3,bkV l),(4,.int .i64 (m - 9:Nat)),(5,.int .u64 (valD ((a.take i).drop (m - 9)):Nat)),(6,.int .i64 i)]) (fun _=>⟨bkBs l,bkN l⟩) (fun i=>m - 9≤i∧i≤m) (fun i=>m - i) (m - 9) (by kernel_rfl)
   ⟨Ye _,by omega⟩ (Sub.of0 [] rfl (bk_k l) ?_ (bk_h l)) ?_
  ·simp only [go_sem];refine⟨bk_v l,?_⟩;simp [valD]
  rintro i ⟨hi1,hi2⟩;simp (disch:=first|exact Zq|fail) only [go_sem,hmin];refine AXc.introP (fun h2=>?_) (fun h2=>?_)
  ·have him:i<m:=by omega
   have hia:i<a.length:=by omega
   have hg:(a.take m).getD i 0=a.getD i 0:=getD_take _ _ _ _ him;have hdi:=zbE (all_getD.1 hd i hia);have hv2:valD ((a.take (i+1)).drop (m - 9))=10*valD ((a.take i).drop (m - 9))+((a.getD i 0).toNat - 48):=by rw [zca a i 0 hia,List.drop_append_of_le_length (by simp;omega),zbP]
   have hlt:valD ((a.take i).drop (m - 9))<100000000:=by have h3:((a.take i).drop (m - 9)).all zaV=true:=Yg.2 fun x hx=>Yg.1 hd x (Ybh (Ybw hx));have h4:=zhm h3;have h5:10 ^ ((a.take i).drop (m - 9)).length≤10 ^ 8:=YI (by omega) (by simp;omega);omega
   simp (disch:=first|exact Zq|fail) only [go_sem,hmin,hg];refine⟨by omega,zi (i+1) ⟨by omega,by omega⟩ (by omega) (Sub.of0 [] rfl (bk_k l) ?_ (bk_h l))⟩;simp only [go_sem];refine⟨bk_v l,?_⟩;rw [hv2];simp only [V.int.injEq,Yan];omega
  ·have him:i=m:=by omega
   subst him;have hs:(a.take i).all zaV=true:=Yg.2 fun x hx=>Yg.1 hd x (Ybh hx);have hlt:valD ((a.take i).drop (i - 9))<1000000000:=by have h3:((a.take i).drop (i - 9)).all zaV=true:=Yg.2 fun x hx=>Yg.1 hs x (Ybw hx);have h4:=zhm h3;have h5:10 ^ ((a.take i).drop (i - 9)).length≤10 ^ 9:=YI (by omega) (by simp;omega);omega
   have hnx:=bk_next hm hv;have hinc:i - 9<i:=by omega
   have hon:okL (l++[valD ((a.take i).drop (i - 9))]):=okL_snoc ho hlt;have hmi:min (i - 9) i=i - 9:=by omega
   simp only [go_sem];refine AXa.go mixed (zf zcg zh) (zg) (by kernel_rfl) ?_;rcases l with _|⟨d,l⟩
   ·simp (disch:=first|exact Zq|fail) only [go_sem,hmin,bkV,bkBs,bkN];refine⟨by omega,zi ([]++[valD ((a.take i).drop (i - 9))],i - 9) ⟨by omega,hon,by simp;omega,hnx⟩ hinc (Sub.of0 [(0,1)] rfl rfl ?_ ?_)⟩
    ·simp only [go_sem,hmi]
    ·simp only [go_sem];simp [nats]
   ·simp (disch:=first|exact Zq|fail) only [go_sem,hmin,bkV,bkBs,bkN,zK];have hll:l.length+1+i≤1000:=hlm;refine⟨by omega,by omega,zi ((d::l)++[valD ((a.take i).drop (i - 9))],i - 9) ⟨by omega,hon,by simp at hlm ⊢;omega,hnx⟩ hinc (Sub.of0 [(0,2)] rfl rfl ?_ ?_)⟩
    ·simp only [go_sem,hmi];simp
    ·simp only [go_sem];simp [nats]
 ·have hm0:m=0:=by omega
  subst hm0;rcases l with _|⟨d,l⟩
  ·simp only [go_sem,bkV,bkBs];refine AXa.go mixed (zf zcg zh) zg (by kernel_rfl) ?_;simp only [go_sem];rw [zrq ho hv];simp [zav,nats]
  ·simp only [go_sem,bkV,bkBs,bkN];refine AXa.fz [0] rfl rfl rfl (env':=[(3,.fs (nats .u64 (d::l)) (d::l).length)]) (bs':=[]) (n':=1) ?_ ?_ ?_
   ·simp only [go_sem];right;exact FrzF.slp (by simp) rfl rfl (by simp [zK]) (by simp [zbR]) (zat _ _)
   ·simp only [go_sem]
   refine AXa.go mixed (zf zcg zh) zg (by kernel_rfl) ?_;simp (disch:=first|exact Zq|fail) only [go_sem];rw [zrq ho hv];exact⟨rfl,rfl⟩
def cmpI(a b:Int):Int:=if a<b then -1 else if b<a then 1 else 0
theorem zuq(a:Nat):PCall prog 239 [.int .u64 a] (.ret (.bool false)):=by refine PCall.wD (rs:=[.tmp 2]) [0,2] [] mixed (zh) (zg) call239 func239 rfl ntmps239 rfl ?_;simp only [go_sem]
noncomputable def zsh:List V→Option PR:=zu (fun a:Nat=>[.int .u64 a]) (fun _=>True) fun _=>.ret (.bool false)
theorem zqr(a:Nat):zsh [.int .u64 a]=some (.ret (.bool false)):=zo (pat:=fun a:Nat=>[.int .u64 a]) (fun x y h=>by simp at h;omega) a trivial
theorem zqq:∀ args r,zsh args=some r→PCall prog 239 args r:=zn fun a _=>zuq a
attribute [go_sem] zqr
theorem znG(a b:Nat):PCall prog 217 [.int .u64 a,.int .u64 b] (.ret (.int .i64 (cmpI a b))):=by
 refine PCall.wD (rs:=[.tmp 4]) [0,1,4,5,6,11,12,13,16,19] [] mixed (zf zqq zh) (zg) call217 func217 rfl ntmps217 rfl ?_;simp only [go_sem];refine AXc.introP (fun h1=>?_) (fun h1=>?_)
 ·simp only [go_sem];simp [cmpI,h1]
 ·simp only [go_sem];refine AXc.introP (fun h2=>?_) (fun h2=>?_)
  ·simp only [go_sem];simp [cmpI,h1,h2]
  ·simp only [go_sem];simp [cmpI,h1,h2]
noncomputable def zj0:List V→Option PR:=zu (fun p:Nat×Nat=>[.int .u64 p.1,.int .u64 p.2]) (fun _=>True) fun p=>.ret (.int .i64 (cmpI p.1 p.2))
theorem zlL(a b:Nat):zj0 [.int .u64 a,.int .u64 b]=some (.ret (.int .i64 (cmpI a b))):=zo (pat:=fun p:Nat×Nat=>[.int .u64 p.1,.int .u64 p.2]) (fun x y h=>by simp at h;exact YT (by omega) (by omega)) (a,b) trivial
theorem zlK:∀ args r,zj0 args=some r→PCall prog 217 args r:=zn fun p _=>znG p.1 p.2
attribute [go_sem] zlL
theorem zyW(a:Int):PCall prog 159 [.int .i64 a] (.ret (.bool false)):=by refine PCall.wD (rs:=[.tmp 2]) [0,2] [] mixed (zh) (zg) call159 func159 rfl ntmps159 rfl ?_;simp only [go_sem]
noncomputable def zBb:List V→Option PR:=zu (fun a:Int=>[.int .i64 a]) (fun _=>True) fun _=>.ret (.bool false)
theorem zvK(a:Int):zBb [.int .i64 a]=some (.ret (.bool false)):=zo (pat:=fun a:Int=>[.int .i64 a]) (fun x y h=>by simpa using h) a trivial
theorem zvJ:∀ args r,zBb args=some r→PCall prog 159 args r:=zn fun a _=>zyW a
attribute [go_sem] zvK
theorem zp4(a b:Int):PCall prog 118 [.int .i64 a,.int .i64 b] (.ret (.int .i64 (cmpI a b))):=by
 refine PCall.wD (rs:=[.tmp 4]) [0,1,4,5,6,11,12,13,16,19] [] mixed (zf zvJ zh) (zg) call118 func118 rfl ntmps118 rfl ?_;simp only [go_sem];refine AXc.introP (fun h1=>?_) (fun h1=>?_)
 ·simp only [go_sem];simp [cmpI,h1]
 ·simp only [go_sem];refine AXc.introP (fun h2=>?_) (fun h2=>?_)
  ·simp only [go_sem];simp [cmpI,h1,h2]
  ·simp only [go_sem];simp [cmpI,h1,h2]
noncomputable def zn9:List V→Option PR:=zu (fun p:Int×Int=>[.int .i64 p.1,.int .i64 p.2]) (fun _=>True) fun p=>.ret (.int .i64 (cmpI p.1 p.2))
theorem zn8(a b:Int):zn9 [.int .i64 a,.int .i64 b]=some (.ret (.int .i64 (cmpI a b))):=zo (pat:=fun p:Int×Int=>[.int .i64 p.1,.int .i64 p.2]) (fun x y h=>by simp at h;exact YT h.1 h.2) (a,b) trivial
theorem zn7:∀ args r,zn9 args=some r→PCall prog 118 args r:=zn fun p _=>zp4 p.1 p.2
attribute [go_sem] zn8
theorem plus1_ok(a b c:Nat)(ha:a<1000000000)(hb:b<1000000000)(hc:c≤1):PCall prog 216 [.int .u64 a,.int .u64 b,.int .u64 c] (.ret (.tup [.int .u64 ((a+b+c) % 1000000000:Nat),.int .u64 ((a+b+c) / 1000000000:Nat)])):=by
 refine PCall.wD (rs:=[.tmp 6,.tmp 7]) [0,1,2,6,7,8] [] mixed (zh) (zg) call216 func216 rfl ntmps216 rfl ?_;simp (disch:=first|exact Zq|fail) only [go_sem];omega
theorem zyj(a b c:Nat)(ha:a<1000000000)(hb:b<1000000000)(hc:c≤1):PCall prog 218 [.int .u64 a,.int .u64 b,.int .u64 c] (.ret (.tup [.int .u64 ((a+1000000000 - b - c) % 1000000000:Nat),.int .u64 (1 - (a+1000000000 - b - c) / 1000000000:Nat)])):=by
 refine PCall.wD (rs:=[.tmp 6,.tmp 7]) [0,1,2,6,7,8] [] mixed (zh) (zg) call218 func218 rfl ntmps218 rfl ?_;simp (disch:=first|exact Zq|fail) only [go_sem];omega
theorem zta(a b c k:Nat)(ha:a<1000000000)(hk:k<1000000000)(hc:c<1000000000):PCall prog 228 [.int .u64 a,.int .u64 b,.int .u64 c,.fp [.int .u64 k]] (.ret (.tup [.int .u64 ((a*k+c) % 1000000000:Nat),.int .u64 ((a*k+c) / 1000000000:Nat)])):=by
 refine PCall.wD (rs:=[.tmp 7,.tmp 8]) [0,2,3,7,8,9] [] mixed (zh) (zg) call228 func228 rfl ntmps228 rfl ?_;have hm:(a:Int)*(k:Int)=((a*k:Nat):Int):=by simp
 have hb:a*k≤999999999*999999999:=Yak (by omega) (by omega);generalize a*k=p at*;simp (disch:=first|exact Zq|fail) only [go_sem,hm];omega
theorem zzv(Γ0:FuncId→List V→Option PR)(hΓ0:zdo prog Γ0)(fid:FuncId)(caps:List V)(hfid:(fid==153)=false)(hcaps:nzs caps=caps)(hrefs:zco caps=[])(hpure:∀ x∈caps,Pure x)(F:Nat→Nat→Nat→Nat×Nat)(Q:Nat→Prop)(hQ0:Q 0)
 (hF:∀ a b c:Nat,a<1000000000→b<1000000000→Q c→Γ0 fid (.int .u64 a::.int .u64 b::.int .u64 c::caps)=some (.ret (.tup [.int .u64 (F a b c).1,.int .u64 (F a b c).2]))∧Q (F a b c).2)
 (x y:List Nat) (hx:okL x) (hy:okL y) (hlx:x.length≤1000) (hly:y.length≤1000):
 PCall prog 215 [.fs (nats .u64 x) x.length,.fs (nats .u64 y) y.length,.fn fid caps] (.ret (.fs (nats .u64 (zdH F x y)) (zdH F x y).length)):=by
 have getlt:∀ {l:List Nat},okL l→∀ i,l.getD i 0<1000000000:=fun {l} h i=>by
  rw [Ya];by_cases hi:i<l.length
  ·rw [Yb hi];exact h _ (YZ _)
  ·rw [Ys (by omega)];simp
 have hpureP:(∀ x∈caps,Ab.Pure x)↔True:=⟨fun _=>trivial,fun _=>hpure⟩
 refine PCall.walk (rs:=[.tmp 6]) [0,1,2,6,7,8,9,10,11,12,18,19,20,25,33] [] mixed (zf zcg hΓ0) (zg) zz7 func215 rfl ntmps215 rfl (by kernel_rfl) (by simp) (by simp [push_cast,hpureP]) ?_
 have hmx:maxI (x.length:Int) (y.length:Int)=((max x.length y.length:Nat):Int):=by unfold maxI;split<;>omega
 have hmb:max x.length y.length≤1000:=by omega
 generalize hN:max x.length y.length=N at*
 simp (disch:=first|exact Zq|fail) only [go_sem,hmx]
 have hQ:∀ i,Q (eachR F x y i).2:=by
  intro i;induction i with
  |zero=>exact hQ0
  |succ i ih=>exact(hF _ _ _ (getlt hx i) (getlt hy i) ih).2
 refine AXs.loop mixed (zf zcg hΓ0) (zg) (fun i:Nat=>[(0,.fs (nats .u64 x) x.length),(1,.fs (nats .u64 y) y.length),(2,.fn fid caps),(7,bkV (eachR F x y i).1),(8,.int .u64 (eachR F x y i).2),(18,.int .i64 (N+1:Int)),(19,.int .i64 i)])
  (fun i=>⟨bkBs (eachR F x y i).1,bkN (eachR F x y i).1⟩) (fun i=>i≤N+1) (fun i=>N+1 - i) 0 (by kernel_rfl) (Yk _) (Sub.of0 [] rfl rfl ?_ ?_) ?_
 ·simp only [go_sem,eachR,bkV]
  simpa using zt hpure
 ·simp only [go_sem,eachR,bkBs]
 intro i hi
 simp (disch:=first|exact Zq|fail) only [go_sem]
 refine AXc.introP (fun h1=>?_) (fun h1=>?_)
 ·have hFi:=(hF (x.getD i 0) (y.getD i 0) (eachR F x y i).2 (getlt hx i) (getlt hy i) (hQ i)).1
  have hsucc:eachR F x y (i+1)=((eachR F x y i).1++[(F (x.getD i 0) (y.getD i 0) (eachR F x y i).2).1],(F (x.getD i 0) (y.getD i 0) (eachR F x y i).2).2):=rfl
  have hlen:=eachR_len F x y i
  generalize F (x.getD i 0) (y.getD i 0) (eachR F x y i).2=r at hFi hsucc
  generalize eachR F x y i=q at*
  obtain⟨q1,q2⟩:=q
  dsimp only at hFi hsucc hlen ⊢
  have zx:¬(i:Int)<x.length→x.getD i 0=0:=fun h=>za6 _ _ _ (by omega)
  have zy:¬(i:Int)<y.length→y.getD i 0=0:=fun h=>za6 _ _ _ (by omega)
  by_cases c1:(i:Int)<x.length<;>by_cases c2:(i:Int)<y.length
  all_goals
   try rw [zx c1]at hFi
   try rw [zy c2]at hFi
   try simp only [Int.natCast_zero]at hFi
   rcases q1 with _|⟨d,l⟩
   ·simp (disch:=first|exact Zq|fail) only [go_sem,bkV,bkBs,bkN,c1,c2,hfid,hcaps,hrefs,hFi]
    repeat refine And.intro (by omega) ?_
    refine zi (i+1) (by omega) (by omega) (Sub.of0 [(0,1)] rfl (by rw [hsucc];rfl) ?_ ?_)
    ·rw [hsucc]
     simp only [go_sem,bkV,bkBs,bkN]
     simpa using zt hpure
    ·rw [hsucc]
     simp only [go_sem,bkV,bkBs,bkN]
     simp [nats]
   ·have hll:l.length+1=i:=hlen
    simp (disch:=first|exact Zq|fail) only [go_sem,bkV,bkBs,bkN,c1,c2,hfid,hcaps,hrefs,hFi]
    repeat refine And.intro (by omega) ?_
    refine zi (i+1) (by omega) (by omega) (Sub.of0 [(0,2)] rfl (by rw [hsucc];rfl) ?_ ?_)
    ·rw [hsucc]
     simp only [go_sem,bkV,bkBs,bkN]
     simpa using zt hpure
    ·rw [hsucc]
     simp only [go_sem,bkV,bkBs,bkN]
     simp [nats]
 ·have hie:i=N+1:=by omega
  subst hie
  have hlen:=eachR_len F x y (N+1)
  have he:zdH F x y=zav (eachR F x y (N+1)).1:=by unfold zdH;rw [hN]
  rw [he]
  generalize eachR F x y (N+1)=q at*
  obtain⟨q1,q2⟩:=q
  dsimp only at hlen ⊢
  rcases q1 with _|⟨d,l⟩
  ·simp at hlen
  ·have hll:l.length+1=N+1:=hlen
   simp only [go_sem,bkV,bkBs,bkN]
   refine AXa.fz [0] rfl rfl rfl (env':=[(7,.fs (nats .u64 (d::l)) (d::l).length)]) (bs':=[]) (n':=1) ?_ ?_ ?_
   ·simp only [go_sem]
    right
    exact FrzF.slp (by simp) rfl rfl (by simp [zK]) (by simp [zbR]) (zat _ _)
   ·simp only [go_sem]
   refine AXa.go mixed (zf zcg hΓ0) (zg) (by kernel_rfl) ?_
   simp (disch:=first|exact Zq|fail) only [go_sem]
end Go.Proofs
