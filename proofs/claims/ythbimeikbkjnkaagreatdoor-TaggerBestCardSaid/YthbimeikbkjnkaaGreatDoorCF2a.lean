/- The reference's natural numbers: which strings are numbers; digits; text. -/
import Derived.Test.YthbimeikbkjnkaaGreatDoorCPlNat
import Derived.Test.YthbimeikbkjnkaaGreatDoorCAbWalk
set_option linter.all false
set_option maxHeartbeats 16000000
set_option maxRecDepth 100000
namespace Go.Proofs
open Tryz Go.Ab Go.Pl
theorem zsq(a:List UInt8):PCall prog 128 [.str a] (.ret (.bool (zG a))):=by
 refine PCall.wD (rs:=[.tmp 2]) [0,2,3,21,25,37] [] mixed (zh) (zg) call128 func128 rfl ntmps128 rfl ?_;simp only [go_sem];have hb:(decide ((a.length:Int)<1)||decide (1000<(a.length:Int))||decide (((a.getD 0 0).toNat:Int)=48)&&decide (1<(a.length:Int)))= !(!decide (a=[])&&decide (a.length≤1000)&&(decide (a.length≤1)|| !decide ((a.getD 0 0).toNat=48))):=by
  have e1:(a.length:Int)<1↔a=[]:=by rw [←List.length_eq_zero_iff];omega
  have e2:1000<(a.length:Int)↔¬a.length≤1000:=by omega
  have e3:((a.getD 0 0).toNat:Int)=48↔(a.getD 0 0).toNat=48:=by omega
  have e4:1<(a.length:Int)↔¬a.length≤1:=by omega
  simp only [e1,e2,e3,e4];by_cases c1:a=[]<;>by_cases c2:a.length≤1000<;>by_cases c3:(a.getD 0 0).toNat=48<;>by_cases c4:a.length≤1<;>simp only [c1,c2,c3,c4,decide_true,decide_false]<;>rfl
 refine⟨fun h=>⟨h,?_⟩,fun h=>⟨h,fun h'=>by rw [h,h'];rfl⟩,?_⟩
 ·simp at h;omega
 rw [hb];cases hc:(!decide (a=[])&&decide (a.length≤1000)&&(decide (a.length≤1)|| !decide ((a.getD 0 0).toNat=48)))with
 |false=>simp only [go_sem];simp only [zG,hc,Bool.false_and]
 |true=>
  have hl:a.length≤1000:=by simp at hc;omega
  simp only [go_sem];refine AXs.loop mixed (zh) (zg) (fun i:Nat=>[(0,.str a),(3,.int .i64 i)]) (fun _=>⟨[],0⟩) (fun i=>i≤a.length∧∀ j,j<i→zaM (a.getD j 0)=true) (fun i=>a.length - i) 0 (by kernel_rfl) (by simp) (Sub.of0 [] rfl rfl ?_ ?_) ?_
  ·simp only [go_sem]
  ·simp only [go_sem]
  rintro i ⟨h1,h2⟩;simp only [go_sem];refine AXc.introP (fun h3=>?_) (fun h3=>?_)
  ·simp (disch:=first|assumption|(push_cast<;>omega)|omega) only [go_sem]
   (repeat refine sdC ?_);have hd:(decide (((a.getD i 0).toNat:Int)<48)||decide (57<((a.getD i 0).toNat:Int)))= !zaM (a.getD i 0):=by
    unfold zaM;have e1:((a.getD i 0).toNat:Int)<48↔¬48≤(a.getD i 0).toNat:=by omega
    have e2:57<((a.getD i 0).toNat:Int)↔¬(a.getD i 0).toNat≤57:=by omega
    simp only [e1,e2];by_cases c1:48≤(a.getD i 0).toNat<;>by_cases c2:(a.getD i 0).toNat≤57<;>simp only [c1,c2,decide_true,decide_false]<;>rfl
   rw [hd];cases hg:zaM (a.getD i 0)with
   |false=>
    simp only [go_sem];have:a.all zaM=false:=by
     cases e:a.all zaM with
     |false=>rfl
     |true=>rw [all_getD.1 e i (by omega)]at hg;cases hg
    simp only [zG,this,Bool.and_false]
   |true=>
    simp (disch:=first|assumption|(push_cast<;>omega)|omega) only [go_sem];refine zk (i+1) ⟨by omega,fun j hj=>?_⟩ (by omega) (Sub.of0 [] rfl rfl ?_ ?_)
    ·by_cases hji:j<i
     ·exact h2 j hji
     ·obtain rfl:j=i:=by omega
      exact hg
    ·simp only [go_sem];simp
    ·simp only [go_sem]
  ·simp only [go_sem];refine AXa.go mixed (zh) (zg) (by kernel_rfl) ?_;simp only [go_sem];have:a.all zaM=true:=all_getD.2 fun i hi=>h2 i (by omega);simp only [zG,this,hc,Bool.and_true]
noncomputable def zrm:List V→Option PR:=zF (fun a:List UInt8=>[.str a]) (fun _=>True) fun a=>.ret (.bool (zG a))
theorem zpB(a:List UInt8):zrm [.str a]=some (.ret (.bool (zG a))):=zo (pat:=fun a:List UInt8=>[.str a]) (fun x y h=>by simpa using h) a trivial
theorem za1:∀ args r,zrm args=some r→PCall prog 128 args r:=zn fun a _=>zsq a
attribute [go_sem] zpB
def digD(a:List UInt8):List Nat:=a.reverse.map fun c=>c.toNat - 48
theorem zcm(a:List UInt8):(digD a).length=a.length:=by simp [digD]
theorem zyw(a:List UInt8)(m:Nat)(h:m<a.length):digD (a.drop m)=digD (a.drop (m+1))++[(a.getD m 0).toNat - 48]:=by
 have:a.drop m=a.getD m 0::a.drop (m+1):=by rw [List.getD_eq_getElem?_getD,List.getElem?_eq_getElem h];exact List.drop_eq_getElem_cons h
 rw [this,digD,List.reverse_cons,List.map_append];rfl
theorem zcO:∀ a:List UInt8,Ten.valL (digD a)=valD a:=by
 have key:∀ l:List UInt8,Ten.valL (l.map fun c=>c.toNat - 48)=valD l.reverse:=by
  intro l;induction l with
  |nil=>rfl
  |cons c l ih=>rw [List.map_cons,Ten.valL,ih,List.reverse_cons,zbM];omega
 intro a;have:=key a.reverse;rw [List.reverse_reverse]at this;exact this
theorem zd1 {a:List UInt8}(h:a.all zaM=true):Ten.okL (digD a):=fun d hd=>by obtain⟨c,hc,rfl⟩:=List.mem_map.1 hd;have:=zbx (List.all_eq_true.1 h c (by simpa using hc));omega
def acV(l:List Nat):V:=match l with|[]=>.nilS|_=>.sl 0 0 l.length 1 none
def acBs(k:IntKind)(l:List Nat):List (Nat×Blk):=match l with|[]=>[]|_=>[(0,.cells (nats k l))]
def acN(l:List Nat):Nat:=match l with|[]=>0|_=>1
theorem zsE(a:List UInt8)(hd:a.all zaM=true)(hl:a.length≤100000):PCall prog 130 [.str a] (.ret (.fs (nats .i64 (digD a)) a.length)):=by
 refine PCall.wD (rs:=[.tmp 2]) [0,2,3,4,9] [] mixed (zh) (zg) call130 func130 rfl ntmps130 rfl ?_;simp only [go_sem];refine AXs.loop mixed (zh) (zg) (fun m:Nat=>[(0,.str a),(3,acV (digD (a.drop m))),(4,.int .i64 ((m:Int) - 1))]) (fun m=>⟨acBs .i64 (digD (a.drop m)),acN (digD (a.drop m))⟩) (fun m=>m≤a.length) (fun m=>m) a.length (by kernel_rfl) (Nat.le_refl _) (Sub.of0 [] rfl ?_ ?_ ?_) ?_
 ·rw [List.drop_length];rfl
 ·simp (disch:=first|assumption|(push_cast<;>omega)|omega) only [go_sem,List.drop_length,digD,List.reverse_nil,acV]
 ·simp only [go_sem,List.drop_length,digD,List.reverse_nil,acBs]
 intro m h1;simp only [go_sem];have hl':(digD (a.drop m)).length=a.length - m:=by rw [zcm];simp
 rcases Nat.eq_zero_or_pos m with rfl|h0
 ·simp only [go_sem];rw [List.drop_zero]at hl';have e0:a.length=(digD a).length:=by omega
  rw [e0];generalize digD a=l;rcases l with _|⟨d,l⟩
  ·simp only [go_sem,acV,acBs,acN];refine AXa.go mixed (zh) (zg) (by kernel_rfl) ?_;simp only [go_sem]
  ·simp only [go_sem,acV,acBs,acN];refine AXa.go mixed (zh) (zg) (by kernel_rfl) ?_;simp only [go_sem];exact Frz.slp rfl rfl (by simp [zM]) (by simp [zbO]) (zY _ _)
 ·have hm:m - 1<a.length:=by omega
  have hdr:=zyw a (m - 1) hm;rw [show m - 1+1=m by omega]at hdr;have hdi:=zbx (all_getD.1 hd (m - 1) hm);have c0:¬((m:Int) - 1<0):=by omega
  have c1:decide (0≤(m:Int) - 1)=true:=decide_eq_true (by omega);have c2:((m:Int) - 1).toNat=m - 1:=by omega
  have hx:((a.getD (m - 1) 0).toNat:Int) - 48=(((a.getD (m - 1) 0).toNat - 48:Nat):Int):=by omega
  generalize digD (a.drop m)=l at hdr hl' ⊢;rcases l with _|⟨d,l⟩
  ·simp (disch:=first|assumption|(push_cast<;>omega)|omega) only [go_sem,acV,acBs,acN,c1,c2,hx]
   (repeat refine sdC ?_);refine zk (m - 1) (by omega) (by omega) (Sub.of0 [(0,1)] rfl (by rw [hdr];rfl) ?_ ?_)
   ·rw [hdr];simp only [go_sem,acV,acBs,acN];simp only [V.int.injEq,true_and];omega
   ·rw [hdr];simp only [go_sem,acV,acBs,acN];simp [nats]
  ·simp (disch:=first|assumption|(push_cast<;>omega)|omega) only [go_sem,acV,acBs,acN,c1,c2,hx];have hll:l.length+1=a.length - m:=hl'
   (repeat refine sdC ?_);refine zk (m - 1) (by omega) (by omega) (Sub.of0 [(0,2)] rfl (by rw [hdr];rfl) ?_ ?_)
   ·rw [hdr];simp only [go_sem,acV,acBs,acN];simp;omega
   ·rw [hdr];simp only [go_sem,acV,acBs,acN];simp [nats]
noncomputable def zep:List V→Option PR:=zF (fun a:List UInt8=>[.str a]) (fun a=>a.all zaM=true∧a.length≤100000) fun a=>.ret (.fs (nats .i64 (digD a)) a.length)
theorem zcD(a:List UInt8)(h:a.all zaM=true)(hl:a.length≤100000):zep [.str a]=some (.ret (.fs (nats .i64 (digD a)) a.length)):=zo (pat:=fun a:List UInt8=>[.str a]) (fun x y h=>by simpa using h) a ⟨h,hl⟩
theorem zb0:∀ args r,zep args=some r→PCall prog 130 args r:=zn fun a h=>zsE a h.1 h.2
attribute [go_sem] zcD
end Go.Proofs

namespace Go.Pl
def dg(d:Nat):UInt8:=UInt8.ofNat (48+d)
theorem dg_isDig {d:Nat}(h:d<10):zaM (dg d)=true:=by have:=zbr h;unfold zaM dg;rw [this];simp;omega
theorem zrb {d:Nat}(h:d<10):(dg d).toNat - 48=d:=by have:=zbr h;unfold dg;omega
theorem zp9:∀ {l:List Nat},Ten.okL l→valD (l.reverse.map dg)=Ten.valL l
 |[],_=>rfl
 |d::l,h=>by have h1:d<10:=h d (List.mem_cons_self ..);have h2:Ten.okL l:=fun x hx=>h x (List.mem_cons_of_mem _ hx);rw [List.reverse_cons,List.map_append,List.map_cons,List.map_nil,zbM,zp9 h2,zrb h1,Ten.valL];omega
theorem zyx {l:List Nat}(h:Ten.okL l):(l.map dg).all zaM=true:=List.all_eq_true.2 fun c hc=>by obtain⟨d,hd,rfl⟩:=List.mem_map.1 hc;exact dg_isDig (h d hd)
theorem zdi:∀ {l:List Nat} {n:Nat},n≤l.length→(∀ j,n≤j→l.getD j 0=0)→Ten.valL (l.take n)=Ten.valL l
 |[],_,_,_=>by simp
 |d::l,0,_,h=>by
  have hd:d=0:=h 0 (Nat.le_refl _);have:=zdi (l:=l) (n:=0) (Nat.zero_le _) fun j hj=>by have:=h (j+1) (by omega);simpa using this
  rw [List.take_zero]at this ⊢;show Ten.valL []=d+10*Ten.valL l;rw [←this,hd];rfl
 |d::l,n+1,hn,h=>by rw [List.take_succ_cons,Ten.valL,Ten.valL,zdi (by simpa using hn) fun j hj=>by have:=h (j+1) (by omega);simpa using this]
theorem zqE {l:List Nat}(h:Ten.okL l)(n:Nat):Ten.okL (l.take n):=fun d hd=>h d (List.mem_of_mem_take hd)
theorem ten_text {l:List Nat}{n:Nat}(ok:Ten.okL l)(hn:n≤l.length)(hz:∀ j,n≤j→l.getD j 0=0)(h1:n≤1∨l.getD (n - 1) 0≠0)(h0:0<n):(l.take n).reverse.map dg=dec (Ten.valL l):=by
 have hv:valD ((l.take n).reverse.map dg)=Ten.valL l:=(zp9 (zqE ok n)).trans (zdi hn hz);have hl:((l.take n).reverse.map dg).length=n:=by simp;omega
 rw [←hv];refine(zgG ?_ ?_ ?_).symm
 ·rw [List.map_reverse,List.all_reverse];exact zyx (zqE ok n)
 ·intro e;rw [e]at hl;simp at hl;omega
 ·rw [hl];rcases h1 with h1|h1
  ·exact .inl h1
  ·right;have e:((l.take n).reverse.map dg).getD 0 0=dg (l.getD (n - 1) 0):=by rw [List.getD_eq_getElem?_getD,List.getElem?_map,List.getElem?_reverse (by simp;omega),List.getElem?_take,List.length_take,Nat.min_eq_left hn,if_pos (by omega),List.getD_eq_getElem?_getD];rw [Nat.sub_zero,List.getElem?_eq_getElem (by omega)];rfl
   have hlt:l.getD (n - 1) 0<10:=by rw [List.getD_eq_getElem?_getD,List.getElem?_eq_getElem (by omega)];exact ok _ (List.getElem_mem _)
   rw [e];have:=zbr hlt;unfold dg;omega
theorem zh0 {α:Type}(l:List α)(i:Nat)(d:α)(h:i<l.length):l.drop i=l.getD i d::l.drop (i+1):=by rw [List.getD_eq_getElem?_getD,List.getElem?_eq_getElem h];exact List.drop_eq_getElem_cons h
theorem ziR {a b:List UInt8}{i:Nat}(ha:a.all zaM=true)(hb:b.all zaM=true)(hl:a.length=b.length)(hi:i<a.length)(ht:a.take i=b.take i)(h:a.getD i 0<b.getD i 0):valD a<valD b:=by
 have ea:a=a.take i++(a.getD i 0::a.drop (i+1)):=by rw [←zh0 a i 0 hi,List.take_append_drop]
 have eb:b=b.take i++(b.getD i 0::b.drop (i+1)):=by rw [←zh0 b i 0 (by omega),List.take_append_drop]
 have h1:valD (a.drop (i+1))<10 ^ (a.drop (i+1)).length:=zgW (List.all_eq_true.2 fun c hc=>List.all_eq_true.1 ha c (List.mem_of_mem_drop hc));have hlen:(b.drop (i+1)).length=(a.drop (i+1)).length:=by simp;omega
 have da:=zbx (all_getD.1 ha i hi);have db:=zbx (all_getD.1 hb i (by omega));have hlt:(a.getD i 0).toNat<(b.getD i 0).toNat:=UInt8.lt_iff_toNat_lt.1 h;have e1:valD a=10 ^ ((a.drop (i+1)).length+1)*valD (a.take i)+(10 ^ (a.drop (i+1)).length*((a.getD i 0).toNat - 48)+valD (a.drop (i+1))):=by have:=congrArg valD ea;rw [zbW,zbN,List.length_cons]at this;exact this
 have e2:valD b=10 ^ ((a.drop (i+1)).length+1)*valD (a.take i)+(10 ^ (a.drop (i+1)).length*((b.getD i 0).toNat - 48)+valD (b.drop (i+1))):=by have:=congrArg valD eb;rw [zbW,zbN,List.length_cons,hlen, ←ht]at this;exact this
 rw [e1,e2];have h2:10 ^ (a.drop (i+1)).length*((a.getD i 0).toNat - 48+1)≤10 ^ (a.drop (i+1)).length*((b.getD i 0).toNat - 48):=Nat.mul_le_mul_left _ (by omega);rw [Nat.mul_add,Nat.mul_one]at h2;omega
theorem zdA {m n:Nat}(h:(dec m).length<(dec n).length):m<n:=by refine Nat.lt_of_not_le fun hle=>?_;have h1:=zbG (Nat.le_refl (dec m).length);have h2:=za8 (n:=n) (k:=(dec m).length) (by omega) (zcX m);omega
def zs7(a b c:Nat):Nat×Nat:=if a<b+c then(a+10 - b - c,1)else(a - b - c,0)
theorem lessF_eq {a b c:Nat}(ha:a<10)(hb:b<10)(hc:c≤1):zs7 a b c=Ten.minusF a b c:=by
 unfold zs7 Ten.minusF;split
 ·have e1:(a+10 - b - c) % 10=a+10 - b - c:=Nat.mod_eq_of_lt (by omega);have e2:(a+10 - b - c) / 10=0:=Nat.div_eq_of_lt (by omega);rw [e1,e2]
 ·have e1:(a+10 - b - c) % 10=a - b - c:=by omega
  have e2:(a+10 - b - c) / 10=1:=by omega
  rw [e1,e2]
theorem zqO {x y:List Nat}(hx:Ten.okL x)(hy:Ten.okL y)(hl:y.length≤x.length)(hle:Ten.valL y≤Ten.valL x):
 Ten.valL (Ten.eachR Ten.minusF x y x.length).1=Ten.valL x - Ten.valL y∧Ten.okL (Ten.eachR Ten.minusF x y x.length).1:=by
 have h:=Ten.minus_inv x y hx hy x.length
 rw [List.take_length,List.take_of_length_le hl]at h
 have ok:Ten.okL (Ten.eachR Ten.minusF x y x.length).1:=Ten.okL_each (fun a b c=>Ten.minusF_ok a b c) _
 have hlt:=Ten.valL_lt ok
 rw [Ten.eachR_len]at hlt
 refine⟨?_,ok⟩
 rcases Nat.eq_zero_or_pos (Ten.eachR Ten.minusF x y x.length).2 with h0|h0
 ·rw [h0,Nat.mul_zero]at h;omega
 ·have:10 ^ x.length*1≤10 ^ x.length*(Ten.eachR Ten.minusF x y x.length).2:=Nat.mul_le_mul_left _ h0
  omega
theorem add_val {x y:List Nat}{n:Nat}(hx:Ten.okL x)(hy:Ten.okL y)(h1:x.length<n)(h2:y.length<n):
 Ten.valL (Ten.eachR Ten.plusF x y n).1=Ten.valL x+Ten.valL y∧Ten.okL (Ten.eachR Ten.plusF x y n).1:=by
 have ok:∀ i,Ten.okL (Ten.eachR Ten.plusF x y i).1:=fun i=>Ten.okL_each (fun a b c=>Ten.plusF_ok a b c) _
 obtain⟨m,rfl⟩:∃ m,n=m+1:=⟨n - 1,by omega⟩
 have h:=Ten.plus_inv x y (m+1)
 rw [List.take_of_length_le (by omega),List.take_of_length_le (by omega)]at h
 refine⟨?_,ok _⟩
 have hxl:=Ten.valL_lt hx
 have hyl:=Ten.valL_lt hy
 have p1:(10:Nat) ^ x.length≤10 ^ m:=Nat.pow_le_pow_right (by omega) (by omega)
 have p2:(10:Nat) ^ y.length≤10 ^ m:=Nat.pow_le_pow_right (by omega) (by omega)
 have p3:(10:Nat) ^ (m+1)=10 ^ m*10:=Nat.pow_succ ..
 rcases Nat.eq_zero_or_pos (Ten.eachR Ten.plusF x y (m+1)).2 with h0|h0
 ·rw [h0,Nat.mul_zero]at h;omega
 ·have:10 ^ (m+1)*1≤10 ^ (m+1)*(Ten.eachR Ten.plusF x y (m+1)).2:=Nat.mul_le_mul_left _ h0
  omega
end Go.Pl

namespace Go.Proofs
open Tryz Go.Ab Go.Pl
set_option pp.maxSteps 40000 in
theorem valid_ok(a:List UInt8):PCall prog 150 [.str a] (.ret (.bool (zG a))):=by
 refine PCall.wD (rs:=[.tmp 2]) [0,2,3,20,22,23,24,35] [] mixed (zh) (zg) call150 func150 rfl ntmps150 rfl ?_;simp only [go_sem];refine⟨by simp_all;omega,by simp_all,AXc.intro (fun h1=>?_) (fun h1=>?_)⟩
 ·simp only [go_sem];simp only [zG];by_cases h0:a=[]
  ·simp [h0]
  ·by_cases h2:1000<a.length
   ·simp [Nat.not_le.2 h2]
   ·simp [h0,h2]at h1;have h3:¬a.length≤1:=by omega
    simp [h3,h1];omega
 ·simp only [go_sem];refine AXs.loop mixed zh zg (fun i:Nat=>[(0,.str a),(2,.bool false),(22,.int .i64 a.length),(23,.int .i64 i)]) (fun _=>⟨[],0⟩) (fun i=>i≤a.length∧∀ j,j<i→zaM (a.getD j 0)=true) (fun i=>a.length - i) 0 (by kernel_rfl) (by simp) (Sub.of0 [] rfl rfl ?_ ?_) ?_
  ·simp only [go_sem]
  ·simp only [go_sem]
  rintro i ⟨hi,hd⟩;simp only [go_sem];refine AXc.introP (fun h2=>?_) (fun h2=>?_)
  ·have h2':i<a.length:=by omega
   have h3:a.length≤1000:=by simp at h1;omega
   simp only [go_sem];refine⟨by omega,by simp;omega,AXc.intro (fun h4=>?_) (fun h4=>?_)⟩
   ·simp only [go_sem];symm;simp only [zG,Bool.and_eq_false_iff];right;rw [Bool.eq_false_iff];intro hall;have:=all_getD.1 hall i h2';simp [zaM]at this h4;omega
   ·simp (disch:=first|assumption|(push_cast<;>omega)|omega) only [go_sem];refine zk (i+1) ⟨by omega,fun j hj=>?_⟩ (by omega) (Sub.of0 [] rfl rfl ?_ ?_)
    ·by_cases hji:j=i
     ·subst hji;simp [zaM]at h4 ⊢;omega
     ·exact hd j (by omega)
    ·simp only [go_sem];simp
    ·simp only [go_sem]
  ·simp only [go_sem];refine AXa.go mixed (zh) (zg) (by kernel_rfl) ?_;simp only [go_sem];symm;have hie:i=a.length:=by omega
   subst hie;have:=all_getD.2 hd;simp [zG,this];simp at h1;refine⟨⟨h1.1.1,by omega⟩,?_⟩;by_cases h5:a.length≤1
   ·exact .inl h5
   ·exact .inr (by omega)
theorem trim_ok(l:List Nat)(hl:l.length≤1000000):PCall prog 153 [.fs (nats .u64 l) l.length] (.ret (.fs (nats .u64 (zat l)) (zat l).length)):=by
 refine PCall.wD (rs:=[.tmp 2]) [0,2,14] [] mixed (zh) (zg) zy5 func153 rfl ntmps153 rfl ?_;simp only [go_sem];refine AXs.loop mixed zh zg (fun n:Nat=>[(0,.fs (nats .u64 (l.take n)) n)]) (fun _=>⟨[],0⟩) (fun n=>n≤l.length∧∀ j,n≤j→l.getD j 0=0) (fun n=>n) l.length (by kernel_rfl)
  ⟨Nat.le_refl _,fun j hj=>by simp [List.getD_eq_getElem?_getD,List.getElem?_eq_none hj]⟩ (Sub.of0 [] rfl rfl ?_ ?_) ?_
 ·simp only [go_sem];simp
 ·simp only [go_sem]
 rintro n ⟨hn,hz⟩;rcases Nat.eq_zero_or_pos n with rfl|hp
 ·simp only [go_sem];refine AXa.go mixed zh zg (by kernel_rfl) ?_;simp only [go_sem];have:=zcY (Nat.zero_le l.length) hz (.inl rfl);simp [this,nats]
 ·have hd:decide (0<(n:Int))=true:=by simp;omega
  simp (disch:=first|assumption|(push_cast<;>omega)|omega) only [go_sem,hd];refine⟨by omega,by omega,AXc.introP (fun h1=>?_) (fun h1=>?_)⟩
  ·simp (disch:=first|assumption|(push_cast<;>omega)|omega) only [go_sem];refine⟨by omega,zk (n - 1) ⟨by omega,fun j hj=>?_⟩ (by omega) (Sub.of0 [] rfl rfl ?_ ?_)⟩
   ·by_cases hjn:j=n - 1
    ·subst hjn;omega
    ·exact hz j (by omega)
   ·simp only [go_sem];rw [Nat.min_eq_left (by omega)]
   ·simp only [go_sem]
  ·simp only [go_sem];refine AXa.go mixed zh zg (by kernel_rfl) ?_;simp only [go_sem];have h2:=zcY hn hz (.inr (by omega));rw [h2];simp;omega
noncomputable def cValid:List V→Option PR:=zF (fun a:List UInt8=>[.str a]) (fun _=>True) fun a=>.ret (.bool (zG a))
theorem zzg(a:List UInt8):cValid [.str a]=some (.ret (.bool (zG a))):=zo (pat:=fun a:List UInt8=>[.str a]) (fun x y h=>by simpa using h) a trivial
theorem zcC:∀ args r,cValid args=some r→PCall prog 150 args r:=zn fun a _=>valid_ok a
noncomputable def cTrim:List V→Option PR:=zF (fun l:List Nat=>[.fs (nats .u64 l) l.length]) (fun l=>l.length≤1000000) fun l=>.ret (.fs (nats .u64 (zat l)) (zat l).length)
theorem zrj(l:List Nat)(n:Nat)(hn:n=l.length)(h:l.length≤1000000):cTrim [.fs (nats .u64 l) n]=some (.ret (.fs (nats .u64 (zat l)) (zat l).length)):=by subst hn;exact zo (pat:=fun l:List Nat=>[.fs (nats .u64 l) l.length]) (fun x y h=>by simp at h;exact zan h.1) l h
theorem zzh:cTrim [.fs [] 0]=some (.ret (.fs [] 0)):=zrj [] 0 rfl (by simp)
theorem zb5:∀ args r,cTrim args=some r→PCall prog 153 args r:=zn trim_ok
attribute [go_sem] zzg zrj zzh
theorem okL_snoc {l:List Nat}{d:Nat}(h:okL l)(hd:d<1000000000):okL (l++[d]):=okL_append.2 ⟨h,fun x hx=>by simp at hx;omega⟩
def bkV(l:List Nat):V:=match l with|[]=>.nilS|_=>.sl 0 0 l.length 1 none
def bkBs(l:List Nat):List (Nat×Blk):=match l with|[]=>[]|_=>[(0,.cells (nats .u64 l))]
def bkN(l:List Nat):Nat:=match l with|[]=>0|_=>1
theorem bk_v(l:List Nat):Rn (piL []) (· <bkN l) (bkV l) (bkV l):=by cases l<;>simp only [bkV,bkN,go_sem]<;>simp
theorem bk_h(l:List Nat):subH (piL []) (bkN l) (bkBs l) (bkBs l):=by cases l<;>simp only [bkBs,bkN,go_sem]<;>simp
theorem bk_k(l:List Nat):piOK [] 0 (keysB (bkBs l))=true:=by cases l<;>rfl
theorem zAi(a:List UInt8)(hd:a.all zaM=true)(hl:a.length≤1000):PCall prog 151 [.str a] (.ret (.fs (nats .u64 (limbs (valD a))) (limbs (valD a)).length)):=by
 refine PCall.wD (rs:=[.tmp 2]) [0,2,3,4,5,6,9,18] [] mixed (zf zb5 zh) (zg) call151 func151 rfl ntmps151 rfl ?_;simp only [go_sem];refine AXs.loop mixed (zf zb5 zh) zg (fun(p:List Nat×Nat)=>[(0,.str (a.take p.2)),(3,bkV p.1)]) (fun p=>⟨bkBs p.1,bkN p.1⟩) (fun p=>p.2≤a.length∧okL p.1∧p.1.length+p.2≤1000∧valL p.1+1000000000 ^ p.1.length*valD (a.take p.2)=valD a) (fun p=>p.2) ([],a.length) (by kernel_rfl)
  ⟨Nat.le_refl _,(show okL []from fun d hd=>nomatch hd),by simpa using hl,by simp [valL]⟩ (Sub.of0 [] rfl rfl ?_ ?_) ?_
 ·simp only [go_sem,List.take_length,bkV]
 ·simp only [go_sem,bkBs]
 rintro⟨l,m⟩ ⟨hm,ho,hlm,hv⟩;dsimp only at hm ho hlm hv ⊢;have hmin:min m a.length=m:=Nat.min_eq_left hm;simp (disch:=first|assumption|(push_cast<;>omega)|omega) only [go_sem,hmin];refine AXc.introP (fun h1=>?_) (fun h1=>?_)
 ·have hc:maxI 0 ((m:Int) - 9)=((m - 9:Nat):Int):=by unfold maxI;split<;>omega
  simp (disch:=first|assumption|(push_cast<;>omega)|omega) only [go_sem,hmin,hc];refine AXs.loop mixed (zf zb5 zh) zg (fun i:Nat=>[(0,.str (a.take m)),(3,bkV l),(4,.int .i64 (m - 9:Nat)),(5,.int .u64 (valD ((a.take i).drop (m - 9)):Nat)),(6,.int .i64 i)]) (fun _=>⟨bkBs l,bkN l⟩) (fun i=>m - 9≤i∧i≤m) (fun i=>m - i) (m - 9) (by kernel_rfl)
   ⟨Nat.le_refl _,by omega⟩ (Sub.of0 [] rfl (bk_k l) ?_ (bk_h l)) ?_
  ·simp only [go_sem];refine⟨bk_v l,?_⟩;simp [valD]
  rintro i ⟨hi1,hi2⟩;simp (disch:=first|assumption|(push_cast<;>omega)|omega) only [go_sem,hmin];refine AXc.introP (fun h2=>?_) (fun h2=>?_)
  ·have him:i<m:=by omega
   have hia:i<a.length:=by omega
   have hg:(a.take m).getD i 0=a.getD i 0:=getD_take _ _ _ _ him;have hdi:=zbx (all_getD.1 hd i hia);have hv2:valD ((a.take (i+1)).drop (m - 9))=10*valD ((a.take i).drop (m - 9))+((a.getD i 0).toNat - 48):=by rw [zb2 a i 0 hia,List.drop_append_of_le_length (by simp;omega),zbM]
   have hlt:valD ((a.take i).drop (m - 9))<100000000:=by have h3:((a.take i).drop (m - 9)).all zaM=true:=List.all_eq_true.2 fun x hx=>List.all_eq_true.1 hd x (List.mem_of_mem_take (List.mem_of_mem_drop hx));have h4:=zgW h3;have h5:10 ^ ((a.take i).drop (m - 9)).length≤10 ^ 8:=Nat.pow_le_pow_right (by omega) (by simp;omega);omega
   simp (disch:=first|assumption|(push_cast<;>omega)|omega) only [go_sem,hmin,hg];refine⟨by omega,zk (i+1) ⟨by omega,by omega⟩ (by omega) (Sub.of0 [] rfl (bk_k l) ?_ (bk_h l))⟩;simp only [go_sem];refine⟨bk_v l,?_⟩;rw [hv2];simp only [V.int.injEq,true_and];omega
  ·have him:i=m:=by omega
   subst him;have hs:(a.take i).all zaM=true:=List.all_eq_true.2 fun x hx=>List.all_eq_true.1 hd x (List.mem_of_mem_take hx);have hlt:valD ((a.take i).drop (i - 9))<1000000000:=by have h3:((a.take i).drop (i - 9)).all zaM=true:=List.all_eq_true.2 fun x hx=>List.all_eq_true.1 hs x (List.mem_of_mem_drop hx);have h4:=zgW h3;have h5:10 ^ ((a.take i).drop (i - 9)).length≤10 ^ 9:=Nat.pow_le_pow_right (by omega) (by simp;omega);omega
   have hnx:=bk_next hm hv;have hinc:i - 9<i:=by omega
   have hon:okL (l++[valD ((a.take i).drop (i - 9))]):=okL_snoc ho hlt;have hmi:min (i - 9) i=i - 9:=by omega
   simp only [go_sem];refine AXa.go mixed (zf zb5 zh) (zg) (by kernel_rfl) ?_;rcases l with _|⟨d,l⟩
   ·simp (disch:=first|assumption|(push_cast<;>omega)|omega) only [go_sem,hmin,bkV,bkBs,bkN];refine⟨by omega,zk ([]++[valD ((a.take i).drop (i - 9))],i - 9) ⟨by omega,hon,by simp;omega,hnx⟩ hinc (Sub.of0 [(0,1)] rfl rfl ?_ ?_)⟩
    ·simp only [go_sem,hmi]
    ·simp only [go_sem];simp [nats]
   ·simp (disch:=first|assumption|(push_cast<;>omega)|omega) only [go_sem,hmin,bkV,bkBs,bkN,zM];have hll:l.length+1+i≤1000:=hlm;refine⟨by omega,by omega,zk ((d::l)++[valD ((a.take i).drop (i - 9))],i - 9) ⟨by omega,hon,by simp at hlm ⊢;omega,hnx⟩ hinc (Sub.of0 [(0,2)] rfl rfl ?_ ?_)⟩
    ·simp only [go_sem,hmi];simp
    ·simp only [go_sem];simp [nats]
 ·have hm0:m=0:=by omega
  subst hm0;rcases l with _|⟨d,l⟩
  ·simp only [go_sem,bkV,bkBs];refine AXa.go mixed (zf zb5 zh) zg (by kernel_rfl) ?_;simp only [go_sem];rw [zqL ho hv];simp [zat,nats]
  ·simp only [go_sem,bkV,bkBs,bkN];refine AXa.fz [0] rfl rfl rfl (env':=[(3,.fs (nats .u64 (d::l)) (d::l).length)]) (bs':=[]) (n':=1) ?_ ?_ ?_
   ·simp only [go_sem];right;exact FrzF.slp (by simp) rfl rfl (by simp [zM]) (by simp [zbO]) (zY _ _)
   ·simp only [go_sem]
   refine AXa.go mixed (zf zb5 zh) zg (by kernel_rfl) ?_;simp (disch:=first|assumption|(push_cast<;>omega)|omega) only [go_sem];rw [zqL ho hv];exact⟨rfl,rfl⟩
def cmpI(a b:Int):Int:=if a<b then -1 else if b<a then 1 else 0
theorem ztp(a:Nat):PCall prog 239 [.int .u64 a] (.ret (.bool false)):=by refine PCall.wD (rs:=[.tmp 2]) [0,2] [] mixed (zh) (zg) call239 func239 rfl ntmps239 rfl ?_;simp only [go_sem]
noncomputable def zrq:List V→Option PR:=zF (fun a:Nat=>[.int .u64 a]) (fun _=>True) fun _=>.ret (.bool false)
theorem zpE(a:Nat):zrq [.int .u64 a]=some (.ret (.bool false)):=zo (pat:=fun a:Nat=>[.int .u64 a]) (fun x y h=>by simp at h;omega) a trivial
theorem zpD:∀ args r,zrq args=some r→PCall prog 239 args r:=zn fun a _=>ztp a
attribute [go_sem] zpE
theorem zm6(a b:Nat):PCall prog 217 [.int .u64 a,.int .u64 b] (.ret (.int .i64 (cmpI a b))):=by
 refine PCall.wD (rs:=[.tmp 4]) [0,1,4,5,6,11,12,13,16,19] [] mixed (zf zpD zh) (zg) call217 func217 rfl ntmps217 rfl ?_;simp only [go_sem];refine AXc.introP (fun h1=>?_) (fun h1=>?_)
 ·simp only [go_sem];simp [cmpI,h1]
 ·simp only [go_sem];refine AXc.introP (fun h2=>?_) (fun h2=>?_)
  ·simp only [go_sem];simp [cmpI,h1,h2]
  ·simp only [go_sem];simp [cmpI,h1,h2]
noncomputable def zjC:List V→Option PR:=zF (fun p:Nat×Nat=>[.int .u64 p.1,.int .u64 p.2]) (fun _=>True) fun p=>.ret (.int .i64 (cmpI p.1 p.2))
theorem zlj(a b:Nat):zjC [.int .u64 a,.int .u64 b]=some (.ret (.int .i64 (cmpI a b))):=zo (pat:=fun p:Nat×Nat=>[.int .u64 p.1,.int .u64 p.2]) (fun x y h=>by simp at h;exact Prod.ext (by omega) (by omega)) (a,b) trivial
theorem zli:∀ args r,zjC args=some r→PCall prog 217 args r:=zn fun p _=>zm6 p.1 p.2
attribute [go_sem] zlj
theorem zxL(a:Int):PCall prog 159 [.int .i64 a] (.ret (.bool false)):=by refine PCall.wD (rs:=[.tmp 2]) [0,2] [] mixed (zh) (zg) zy4 func159 rfl ntmps159 rfl ?_;simp only [go_sem]
noncomputable def zz1:List V→Option PR:=zF (fun a:Int=>[.int .i64 a]) (fun _=>True) fun _=>.ret (.bool false)
theorem zuE(a:Int):zz1 [.int .i64 a]=some (.ret (.bool false)):=zo (pat:=fun a:Int=>[.int .i64 a]) (fun x y h=>by simpa using h) a trivial
theorem zuD:∀ args r,zz1 args=some r→PCall prog 159 args r:=zn fun a _=>zxL a
attribute [go_sem] zuE
theorem zpo(a b:Int):PCall prog 118 [.int .i64 a,.int .i64 b] (.ret (.int .i64 (cmpI a b))):=by
 refine PCall.wD (rs:=[.tmp 4]) [0,1,4,5,6,11,12,13,16,19] [] mixed (zf zuD zh) (zg) zy8 func118 rfl ntmps118 rfl ?_;simp only [go_sem];refine AXc.introP (fun h1=>?_) (fun h1=>?_)
 ·simp only [go_sem];simp [cmpI,h1]
 ·simp only [go_sem];refine AXc.introP (fun h2=>?_) (fun h2=>?_)
  ·simp only [go_sem];simp [cmpI,h1,h2]
  ·simp only [go_sem];simp [cmpI,h1,h2]
noncomputable def znp:List V→Option PR:=zF (fun p:Int×Int=>[.int .i64 p.1,.int .i64 p.2]) (fun _=>True) fun p=>.ret (.int .i64 (cmpI p.1 p.2))
theorem zno(a b:Int):znp [.int .i64 a,.int .i64 b]=some (.ret (.int .i64 (cmpI a b))):=zo (pat:=fun p:Int×Int=>[.int .i64 p.1,.int .i64 p.2]) (fun x y h=>by simp at h;exact Prod.ext h.1 h.2) (a,b) trivial
theorem znn:∀ args r,znp args=some r→PCall prog 118 args r:=zn fun p _=>zpo p.1 p.2
attribute [go_sem] zno
theorem plus1_ok(a b c:Nat)(ha:a<1000000000)(hb:b<1000000000)(hc:c≤1):PCall prog 216 [.int .u64 a,.int .u64 b,.int .u64 c] (.ret (.tup [.int .u64 ((a+b+c) % 1000000000:Nat),.int .u64 ((a+b+c) / 1000000000:Nat)])):=by
 refine PCall.wD (rs:=[.tmp 6,.tmp 7]) [0,1,2,6,7,8] [] mixed (zh) (zg) call216 func216 rfl ntmps216 rfl ?_;simp (disch:=first|assumption|(push_cast<;>omega)|omega) only [go_sem];omega
theorem zw9(a b c:Nat)(ha:a<1000000000)(hb:b<1000000000)(hc:c≤1):PCall prog 218 [.int .u64 a,.int .u64 b,.int .u64 c] (.ret (.tup [.int .u64 ((a+1000000000 - b - c) % 1000000000:Nat),.int .u64 (1 - (a+1000000000 - b - c) / 1000000000:Nat)])):=by
 refine PCall.wD (rs:=[.tmp 6,.tmp 7]) [0,1,2,6,7,8] [] mixed (zh) (zg) call218 func218 rfl ntmps218 rfl ?_;simp (disch:=first|assumption|(push_cast<;>omega)|omega) only [go_sem];omega
theorem zsl(a b c k:Nat)(ha:a<1000000000)(hk:k<1000000000)(hc:c<1000000000):PCall prog 228 [.int .u64 a,.int .u64 b,.int .u64 c,.fp [.int .u64 k]] (.ret (.tup [.int .u64 ((a*k+c) % 1000000000:Nat),.int .u64 ((a*k+c) / 1000000000:Nat)])):=by
 refine PCall.wD (rs:=[.tmp 7,.tmp 8]) [0,2,3,7,8,9] [] mixed (zh) (zg) call228 func228 rfl ntmps228 rfl ?_;have hm:(a:Int)*(k:Int)=((a*k:Nat):Int):=by simp
 have hb:a*k≤999999999*999999999:=Nat.mul_le_mul (by omega) (by omega);generalize a*k=p at*;simp (disch:=first|assumption|(push_cast<;>omega)|omega) only [go_sem,hm];omega
theorem zyn(Γ0:FuncId→List V→Option PR)(hΓ0:zdc prog Γ0)(fid:FuncId)(caps:List V)(hfid:(fid==153)=false)(hcaps:nzs caps=caps)(hrefs:zcd caps=[])(hpure:∀ x∈caps,Pure x)(F:Nat→Nat→Nat→Nat×Nat)(Q:Nat→Prop)(hQ0:Q 0)
 (hF:∀ a b c:Nat,a<1000000000→b<1000000000→Q c→Γ0 fid (.int .u64 a::.int .u64 b::.int .u64 c::caps)=some (.ret (.tup [.int .u64 (F a b c).1,.int .u64 (F a b c).2]))∧Q (F a b c).2)
 (x y:List Nat) (hx:okL x) (hy:okL y) (hlx:x.length≤1000) (hly:y.length≤1000):
 PCall prog 215 [.fs (nats .u64 x) x.length,.fs (nats .u64 y) y.length,.fn fid caps] (.ret (.fs (nats .u64 (zdv F x y)) (zdv F x y).length)):=by
 have getlt:∀ {l:List Nat},okL l→∀ i,l.getD i 0<1000000000:=fun {l} h i=>by
  rw [List.getD_eq_getElem?_getD];by_cases hi:i<l.length
  ·rw [List.getElem?_eq_getElem hi];exact h _ (List.getElem_mem _)
  ·rw [List.getElem?_eq_none (by omega)];simp
 have hpureP:(∀ x∈caps,Ab.Pure x)↔True:=⟨fun _=>trivial,fun _=>hpure⟩
 refine PCall.walk (rs:=[.tmp 6]) [0,1,2,6,7,8,9,10,11,12,18,19,20,25,33] [] mixed (zf zb5 hΓ0) (zg) zy3 func215 rfl ntmps215 rfl (by kernel_rfl) (by simp) (by simp [push_cast,hpureP]) ?_
 have hmx:maxI (x.length:Int) (y.length:Int)=((max x.length y.length:Nat):Int):=by unfold maxI;split<;>omega
 have hmb:max x.length y.length≤1000:=by omega
 generalize hN:max x.length y.length=N at*
 simp (disch:=first|assumption|(push_cast<;>omega)|omega) only [go_sem,hmx]
 have hQ:∀ i,Q (eachR F x y i).2:=by
  intro i;induction i with
  |zero=>exact hQ0
  |succ i ih=>exact(hF _ _ _ (getlt hx i) (getlt hy i) ih).2
 refine AXs.loop mixed (zf zb5 hΓ0) (zg) (fun i:Nat=>[(0,.fs (nats .u64 x) x.length),(1,.fs (nats .u64 y) y.length),(2,.fn fid caps),(7,bkV (eachR F x y i).1),(8,.int .u64 (eachR F x y i).2),(18,.int .i64 (N+1:Int)),(19,.int .i64 i)])
  (fun i=>⟨bkBs (eachR F x y i).1,bkN (eachR F x y i).1⟩) (fun i=>i≤N+1) (fun i=>N+1 - i) 0 (by kernel_rfl) (Nat.zero_le _) (Sub.of0 [] rfl rfl ?_ ?_) ?_
 ·simp only [go_sem,eachR,bkV]
  simpa using zA hpure
 ·simp only [go_sem,eachR,bkBs]
 intro i hi
 simp (disch:=first|assumption|(push_cast<;>omega)|omega) only [go_sem]
 refine AXc.introP (fun h1=>?_) (fun h1=>?_)
 ·have hFi:=(hF (x.getD i 0) (y.getD i 0) (eachR F x y i).2 (getlt hx i) (getlt hy i) (hQ i)).1
  have hsucc:eachR F x y (i+1)=((eachR F x y i).1++[(F (x.getD i 0) (y.getD i 0) (eachR F x y i).2).1],(F (x.getD i 0) (y.getD i 0) (eachR F x y i).2).2):=rfl
  have hlen:=eachR_len F x y i
  generalize F (x.getD i 0) (y.getD i 0) (eachR F x y i).2=r at hFi hsucc
  generalize eachR F x y i=q at*
  obtain⟨q1,q2⟩:=q
  dsimp only at hFi hsucc hlen ⊢
  have zx:¬(i:Int)<x.length→x.getD i 0=0:=fun h=>zaZ _ _ _ (by omega)
  have zy:¬(i:Int)<y.length→y.getD i 0=0:=fun h=>zaZ _ _ _ (by omega)
  by_cases c1:(i:Int)<x.length<;>by_cases c2:(i:Int)<y.length
  all_goals
   try rw [zx c1]at hFi
   try rw [zy c2]at hFi
   try simp only [Int.natCast_zero]at hFi
   rcases q1 with _|⟨d,l⟩
   ·simp (disch:=first|assumption|(push_cast<;>omega)|omega) only [go_sem,bkV,bkBs,bkN,c1,c2,hfid,hcaps,hrefs,hFi]
    repeat refine And.intro (by omega) ?_
    refine zk (i+1) (by omega) (by omega) (Sub.of0 [(0,1)] rfl (by rw [hsucc];rfl) ?_ ?_)
    ·rw [hsucc]
     simp only [go_sem,bkV,bkBs,bkN]
     simpa using zA hpure
    ·rw [hsucc]
     simp only [go_sem,bkV,bkBs,bkN]
     simp [nats]
   ·have hll:l.length+1=i:=hlen
    simp (disch:=first|assumption|(push_cast<;>omega)|omega) only [go_sem,bkV,bkBs,bkN,c1,c2,hfid,hcaps,hrefs,hFi]
    repeat refine And.intro (by omega) ?_
    refine zk (i+1) (by omega) (by omega) (Sub.of0 [(0,2)] rfl (by rw [hsucc];rfl) ?_ ?_)
    ·rw [hsucc]
     simp only [go_sem,bkV,bkBs,bkN]
     simpa using zA hpure
    ·rw [hsucc]
     simp only [go_sem,bkV,bkBs,bkN]
     simp [nats]
 ·have hie:i=N+1:=by omega
  subst hie
  have hlen:=eachR_len F x y (N+1)
  have he:zdv F x y=zat (eachR F x y (N+1)).1:=by unfold zdv;rw [hN]
  rw [he]
  generalize eachR F x y (N+1)=q at*
  obtain⟨q1,q2⟩:=q
  dsimp only at hlen ⊢
  rcases q1 with _|⟨d,l⟩
  ·simp at hlen
  ·have hll:l.length+1=N+1:=hlen
   simp only [go_sem,bkV,bkBs,bkN]
   refine AXa.fz [0] rfl rfl rfl (env':=[(7,.fs (nats .u64 (d::l)) (d::l).length)]) (bs':=[]) (n':=1) ?_ ?_ ?_
   ·simp only [go_sem]
    right
    exact FrzF.slp (by simp) rfl rfl (by simp [zM]) (by simp [zbO]) (zY _ _)
   ·simp only [go_sem]
   refine AXa.go mixed (zf zb5 hΓ0) (zg) (by kernel_rfl) ?_
   simp (disch:=first|assumption|(push_cast<;>omega)|omega) only [go_sem]
end Go.Proofs
