/- The reference's natural numbers: Div. -/
import Derived.Test.YthbimeikbkjnkaaGreatDoorF2b
set_option linter.all false
namespace Go.Proofs
open Go.Ab Go.Pl
def divV(a b:List UInt8):V:=if zB a=true∧zB b=true then(if valD b=0 then .tup [.str [],.str [],.int .i64 4]else .tup [.str (dec (valD a / valD b)),.str (dec (valD a % valD b)),.int .i64 0])else .tup [.str [],.str [],.int .i64 1]
theorem ze6 {x:Nat}{b:List UInt8}(hb:dec (valD b)=b)(lb:b.length≤1000)(h:valD b≤x)(hx:(dec x).length≤1001):∃ W:List Nat,
 zd5 [.str (dec x)]=some (.ret (.fs (nats .i64 (digD (dec x))) (dec x).length))∧zd5 [.str b]=some (.ret (.fs (nats .i64 (digD b)) b.length))∧
 zwQ [.fs (nats .i64 (digD (dec x))) (dec x).length,.fs (nats .i64 (digD b)) b.length]=some (.ret (.fs (nats .i64 W) (dec x).length))∧
 zlX [.fs (nats .i64 W) (dec x).length]=some (.ret (.str (dec (x - valD b)))):=by
 have db:b.all zaJ=true:=by rw [←hb];exact zcl _
 have ox:=zdL (zcl x)
 have ob:=zdL db
 have vx:=zcz (dec x)
 have vb:=zcz b
 rw [zX]at vx
 have kx:=zb3 (dec x)
 have kb:=zb3 b
 have hlen:b.length≤(dec x).length:=by have:=zak h;rwa [hb]at this
 obtain⟨h1,h2⟩:=zoU ox ob (by omega) (by omega)
 have h3:=Ten.eachR_len Ten.minusF (digD (dec x)) (digD b) (digD (dec x)).length
 refine⟨(Ten.eachR Ten.minusF (digD (dec x)) (digD b) (digD (dec x)).length).1,zcn _ (zcl x) (by omega),zcn _ db (by omega),?_,?_⟩
 ·have:=zl1 (digD (dec x)) (digD b) (dec x).length b.length kx.symm kb.symm ox ob (by omega) (by omega)
  rw [this,kx]
 ·rw [vx,vb]at h1
  rw [←h1]
  exact zeT _ _ (by rw [h3,kx]) (by rw [h3];omega) h2
set_option maxHeartbeats 4000000 in
theorem rDiv_ok(a b:List UInt8):PCall Tryz.prog 129 [.str a,.str b] (.ret (divV a b)):=by
 have hΓ:=zf zaG (zf zdM (zf zbM (zf zl0 (zf zcS zh))));refine PCall.walk (rs:=[.tmp 4,.tmp 5,.tmp 6]) [0,1,4,5,6,7,8,9,10,11,19,21,25,29,45,69] [] mixed (hΓ) (zg) call129 Tryz.func129 rfl Tryz.ntmps129 rfl (by kernel_rfl) (by simp) (by simp [push_cast]) ?_;by_cases ha:zB a=true
 case neg=>simp only [go_sem,divV,ha]
 by_cases hb:zB b=true
 case neg=>simp only [go_sem,divV,ha,hb]
 have la:=zK ha;have lb:=zK hb;have da:=zU ha;have eb:=zaf hb;have hz:decide (b=[48])=decide (valD b=0):=by
  have:b=[48]↔valD b=0:=by rw [←dec_is_zero,eb]
  simp only [this]
 simp (disch:=(first|assumption|omega|(simp only [List.length_take,List.length_drop,List.length_append,List.length_set,List.length_replicate,List.length_cons,List.length_nil,zJ,zae,zad]<;>omega)|fail)) only [go_sem,ha,hb];rw [hz];refine AXc.introP (fun hn=>?_) (fun hn=>?_)
 ·simp only [go_sem,divV,ha,hb,hn]
 have hn0:0<valD b:=by omega
 have hres:divV a b=.tup [.str (dec (valD a / valD b)),.str (dec (valD a % valD b)),.int .i64 0]:=by simp only [divV,ha,hb,and_self,if_true,hn,if_false]
 rw [hres];have hane:0<a.length:=List.length_pos_iff.2 (by rw [←zaf ha];exact zix _);simp only [go_sem];refine AXs.loop mixed (hΓ) (zg) (fun p:Nat×List Nat=>[(0,.str a),(1,.str b),(7,acV (p.2.map (48+·))),(8,.str (dec (valD (a.take p.1) % valD b))),(9,.int .i64 p.1)]) (fun p=>⟨acBt 5 (p.2.map (48+·)),acN (p.2.map (48+·))⟩)
  (fun p=>p.1≤a.length∧p.2.length=p.1∧(∀ d∈p.2,d<10)∧valD (p.2.map dg)=valD (a.take p.1) / valD b) (fun p=>a.length - p.1) (0,[]) (by kernel_rfl) ⟨Nat.zero_le _,rfl,by simp,by simp [zcr]⟩ (Sub.of0 [] rfl rfl ?_ ?_) ?_
 ·simp only [go_sem,acV,zcr,List.take_zero,Nat.zero_mod,zpe,List.map_nil]
 ·simp only [go_sem,acBt,List.map_nil]
 rintro⟨i,w⟩ ⟨h1,h2,h3,h4⟩;dsimp only at h1 h2 h3 h4 ⊢;simp only [go_sem];refine AXc.introP (fun h5=>?_) (fun h5=>?_)
 ·have hi:i<a.length:=by omega
  have hdig:=all_getD.1 da i hi;have hdd:=zbm hdig;obtain⟨d,hd⟩:∃ d,(a.getD i 0).toNat - 48=d:=⟨_,rfl⟩;have hdg:dg d=a.getD i 0:=by rw [←hd];exact dg_of hdig
  have hd9:d<10:=by omega
  have hq:=quo_step (V:=valD (a.take i)) hn0 hd9;have hvt:=zs7 hi;rw [hd]at hvt;have hrl:=Nat.mod_lt (valD (a.take i)) hn0;have ha1:(a.take (i+1)).drop i=[dg d]:=by
   have:a.take (i+1)=a.take i++[a.getD i 0]:=by rw [List.take_add_one,List.getD_eq_getElem?_getD,List.getElem?_eq_getElem hi];rfl
   rw [this,List.drop_append,List.drop_take,hdg];have:(a.take i).length=i:=by simp;omega
   rw [this];simp
  have hzr:decide (dec (valD (a.take i) % valD b)=[48])=decide (valD (a.take i) % valD b=0):=by simp only [dec_is_zero]
  rw [←hvt]at hq;rw [←h4]at hq;generalize hr:valD (a.take i) % valD b=r at hq hrl hzr ⊢;have hS:10*r+d<10*valD b:=by omega
  have lr:(dec r).length≤1000:=Nat.le_trans (zak (Nat.le_of_lt hrl)) (by rw [eb];exact lb);have lS:(dec (10*r+d)).length≤1001:=by refine Nat.le_trans (zak (n:=10*valD b+0) (by omega)) ?_;rw [←zpf hn0 (by omega),eb];simp;omega
  generalize hSe:10*r+d=S at hq hS lS;have hge:∀ X:Nat,decide (0≤cmpI (X:Int) (valD b:Int))=decide (valD b≤X):=fun X=>by
   have:0≤cmpI (X:Int) (valD b:Int)↔valD b≤X:=by
    unfold cmpI;split
    ·omega
    ·split<;>omega
   simp only [this]
  rcases w with _|⟨u,w⟩
  ·simp only [go_sem,acV,acBt,acN,List.map_nil];simp (disch:=(first|assumption|omega|(simp only [List.length_take,List.length_drop,List.length_append,List.length_set,List.length_replicate,List.length_cons,List.length_nil,zJ,zae,zad]<;>omega)|fail)) only [go_sem,hzr];obtain rfl:i=0:=h2.symm;obtain rfl:r=0:=by rw [←hr];simp [zcr]
   simp (disch:=(first|assumption|omega|(simp only [List.length_take,List.length_drop,List.length_append,List.length_set,List.length_replicate,List.length_cons,List.length_nil,zJ,zae,zad]<;>omega)|fail)) only [go_sem]
   (repeat refine sdC ?_);have ha2:a.take 1=[dg d]:=by simpa using ha1
   rw [ha2,zv1 hd9,hSe];have fin:∀ j,j*valD b≤S→¬valD b≤S - j*valD b→j<10∧S / valD b=j∧S % valD b=S - j*valD b:=fun j hj h8=>by
    have e1:S / valD b=j:=by refine Nat.div_eq_of_lt_le hj ?_;rw [Nat.succ_mul];omega
    have e2:=Nat.div_add_mod S (valD b);rw [e1,Nat.mul_comm]at e2;exact⟨by omega,e1,by omega⟩
   have lt9:∀ j,j*valD b+valD b≤S→j<10:=fun j hj=>by refine Nat.lt_of_mul_lt_mul_right (a:=valD b) ?_;omega
   refine AXs.loop mixed (hΓ) (zg) (fun j:Nat=>[(0,.str a),(1,.str b),(7,.nilS),(8,.str (dec (S - j*valD b))),(9,.int .i64 0),(10,.int .u8 (48+(j:Int)))]) (fun _=>⟨[],0⟩) (fun j=>j*valD b≤S) (fun j=>S - j*valD b) 0 (by kernel_rfl) (by simp) (Sub.of0 [] rfl rfl ?_ ?_) ?_
   ·simp only [go_sem,Nat.zero_mul,Nat.sub_zero]
   ·simp only [go_sem]
   rintro j hj;have hx:(dec (S - j*valD b)).length≤1001:=Nat.le_trans (zak (Nat.sub_le ..)) lS;have hcmp:zdN [.str (dec (S - j*valD b)),.str b]=some (.ret (.int .i64 (cmpI ((S - j*valD b:Nat):Int) (valD b)))):=by have:=zcB (dec (S - j*valD b)) b (by rw [zX]) eb (by omega);rwa [zX]at this
   simp (disch:=(first|assumption|omega|(simp only [List.length_take,List.length_drop,List.length_append,List.length_set,List.length_replicate,List.length_cons,List.length_nil,zJ,zae,zad]<;>omega)|fail)) only [go_sem,hcmp,hge];refine AXc.introP (fun h8=>?_) (fun h8=>?_)
   ·obtain⟨W,c1,c2,c3,c4⟩:=ze6 eb lb h8 hx;have hj9:=lt9 j (by omega);simp (disch:=(first|assumption|omega|(simp only [List.length_take,List.length_drop,List.length_append,List.length_set,List.length_replicate,List.length_cons,List.length_nil,zJ,zae,zad]<;>omega)|fail)) only [go_sem,c1,c2,c3,c4];refine zo (j+1) (by rw [Nat.succ_mul];omega) (by rw [Nat.succ_mul];omega) (Sub.of0 [] rfl rfl ?_ ?_)
    ·simp only [go_sem,Nat.succ_mul,Nat.sub_add_eq];simp only [V.int.injEq,true_and];omega
    ·simp only [go_sem]
   ·obtain⟨hj9,f1,f2⟩:=fin j hj h8;simp (disch:=(first|assumption|omega|(simp only [List.length_take,List.length_drop,List.length_append,List.length_set,List.length_replicate,List.length_cons,List.length_nil,zJ,zae,zad]<;>omega)|fail)) only [go_sem];refine AXa.go mixed (hΓ) (zg) (by kernel_rfl) ?_;simp (disch:=(first|assumption|omega|(simp only [List.length_take,List.length_drop,List.length_append,List.length_set,List.length_replicate,List.length_cons,List.length_nil,zJ,zae,zad]<;>omega)|fail)) only [go_sem];have hm:valD (a.take (0+1)) % valD b=S - j*valD b:=hq.2.1.trans f2;have hv:valD (([]++[j]).map dg)=valD (a.take (0+1)) / valD b:=by rw [List.map_append,show [j].map dg=[dg j]from rfl,zbz,zpd hj9,hq.1,f1]
    refine zo (0+1,[j]) ⟨by omega,rfl,?_,hv⟩ (by dsimp only;omega) (Sub.of0 [(0,1)] rfl rfl ?_ ?_)
    ·intro x hx;simp at hx;omega
    ·simp only [go_sem,acV,acBt,acN,hm,List.map_cons,List.map_nil,List.map_append]
    ·simp only [go_sem,acV,acBt,acN,List.map_cons,List.map_nil,List.map_append];simp [nats]
  ·simp only [go_sem,acV,acBt,acN,List.map_cons,List.length_map];simp (disch:=(first|assumption|omega|(simp only [List.length_take,List.length_drop,List.length_append,List.length_set,List.length_replicate,List.length_cons,List.length_nil,zJ,zae,zad]<;>omega)|fail)) only [go_sem,hzr];refine AXc.introP (fun h6=>?_) (fun h6=>?_)
   ·simp (disch:=(first|assumption|omega|(simp only [List.length_take,List.length_drop,List.length_append,List.length_set,List.length_replicate,List.length_cons,List.length_nil,zJ,zae,zad]<;>omega)|fail)) only [go_sem]
    (repeat refine sdC ?_);have hSe':10*0+d=S:=by rw [←h6];exact hSe
    rw [ha1,zv1 hd9,hSe'];have fin:∀ j,j*valD b≤S→¬valD b≤S - j*valD b→j<10∧S / valD b=j∧S % valD b=S - j*valD b:=fun j hj h8=>by
     have e1:S / valD b=j:=by refine Nat.div_eq_of_lt_le hj ?_;rw [Nat.succ_mul];omega
     have e2:=Nat.div_add_mod S (valD b);rw [e1,Nat.mul_comm]at e2;exact⟨by omega,e1,by omega⟩
    have lt9:∀ j,j*valD b+valD b≤S→j<10:=fun j hj=>by refine Nat.lt_of_mul_lt_mul_right (a:=valD b) ?_;omega
    refine AXs.loop mixed (hΓ) (zg) (fun j:Nat=>[(0,.str a),(1,.str b),(7,.sl 0 0 (w.length+1) 1 none),(8,.str (dec (S - j*valD b))),(9,.int .i64 i),(10,.int .u8 (48+(j:Int)))]) (fun _=>⟨[(0,.ty 5 (nats .u8 ((48+u)::w.map (48+·))))],1⟩) (fun j=>j*valD b≤S) (fun j=>S - j*valD b) 0 (by kernel_rfl) (by simp) (Sub.of0 [(0,0)] rfl rfl ?_ ?_) ?_
    ·simp only [go_sem,Nat.zero_mul,Nat.sub_zero]
    ·simp only [go_sem]
    rintro j hj;have hx:(dec (S - j*valD b)).length≤1001:=Nat.le_trans (zak (Nat.sub_le ..)) lS;have hcmp:zdN [.str (dec (S - j*valD b)),.str b]=some (.ret (.int .i64 (cmpI ((S - j*valD b:Nat):Int) (valD b)))):=by have:=zcB (dec (S - j*valD b)) b (by rw [zX]) eb (by omega);rwa [zX]at this
    simp (disch:=(first|assumption|omega|(simp only [List.length_take,List.length_drop,List.length_append,List.length_set,List.length_replicate,List.length_cons,List.length_nil,zJ,zae,zad]<;>omega)|fail)) only [go_sem,hcmp,hge];refine AXc.introP (fun h8=>?_) (fun h8=>?_)
    ·obtain⟨W,c1,c2,c3,c4⟩:=ze6 eb lb h8 hx;have hj9:=lt9 j (by omega);simp (disch:=(first|assumption|omega|(simp only [List.length_take,List.length_drop,List.length_append,List.length_set,List.length_replicate,List.length_cons,List.length_nil,zJ,zae,zad]<;>omega)|fail)) only [go_sem,c1,c2,c3,c4];refine zo (j+1) (by rw [Nat.succ_mul];omega) (by rw [Nat.succ_mul];omega) (Sub.of0 [(0,0)] rfl rfl ?_ ?_)
     ·simp only [go_sem,Nat.succ_mul,Nat.sub_add_eq];simp only [V.int.injEq,true_and];omega
     ·simp only [go_sem]
    ·obtain⟨hj9,f1,f2⟩:=fin j hj h8;simp (disch:=(first|assumption|omega|(simp only [List.length_take,List.length_drop,List.length_append,List.length_set,List.length_replicate,List.length_cons,List.length_nil,zJ,zae,zad]<;>omega)|fail)) only [go_sem];refine AXa.go mixed (hΓ) (zg) (by kernel_rfl) ?_;simp (disch:=(first|assumption|omega|(simp only [List.length_take,List.length_drop,List.length_append,List.length_set,List.length_replicate,List.length_cons,List.length_nil,zJ,zae,zad]<;>omega)|fail)) only [go_sem];have hm:valD (a.take (i+1)) % valD b=S - j*valD b:=hq.2.1.trans f2;have hv:valD (((u::w)++[j]).map dg)=valD (a.take (i+1)) / valD b:=by rw [List.map_append,show [j].map dg=[dg j]from rfl,zbz,zpd hj9,hq.1,f1]
     have hwl:w.length+1=i:=h2;refine⟨⟨by simp,by omega,by omega⟩,?_⟩;refine zo (i+1,u::(w++[j])) ⟨by omega,by simp;omega,?_,hv⟩ (by dsimp only;omega) (Sub.of0 [(0,2)] rfl rfl ?_ ?_)
     ·intro x hx;rcases List.mem_cons.1 hx with hx|hx
      ·exact h3 x (by rw [hx];simp)
      ·rcases List.mem_append.1 hx with hx|hx
       ·exact h3 x (List.mem_cons_of_mem _ hx)
       ·simp at hx;omega
     ·simp only [go_sem,acV,acBt,acN,hm,List.map_cons,List.map_nil,List.map_append];simp
     ·simp only [go_sem,acV,acBt,acN,List.map_cons,List.map_nil,List.map_append];simp [nats,List.take_of_length_le]
   ·simp (disch:=(first|assumption|omega|(simp only [List.length_take,List.length_drop,List.length_append,List.length_set,List.length_replicate,List.length_cons,List.length_nil,zJ,zae,zad]<;>omega)|fail)) only [go_sem]
    (repeat refine sdC ?_);rw [ha1,zpf (by omega) hd9,hSe];have fin:∀ j,j*valD b≤S→¬valD b≤S - j*valD b→j<10∧S / valD b=j∧S % valD b=S - j*valD b:=fun j hj h8=>by
     have e1:S / valD b=j:=by refine Nat.div_eq_of_lt_le hj ?_;rw [Nat.succ_mul];omega
     have e2:=Nat.div_add_mod S (valD b);rw [e1,Nat.mul_comm]at e2;exact⟨by omega,e1,by omega⟩
    have lt9:∀ j,j*valD b+valD b≤S→j<10:=fun j hj=>by refine Nat.lt_of_mul_lt_mul_right (a:=valD b) ?_;omega
    refine AXs.loop mixed (hΓ) (zg) (fun j:Nat=>[(0,.str a),(1,.str b),(7,.sl 0 0 (w.length+1) 1 none),(8,.str (dec (S - j*valD b))),(9,.int .i64 i),(10,.int .u8 (48+(j:Int)))]) (fun _=>⟨[(0,.ty 5 (nats .u8 ((48+u)::w.map (48+·))))],1⟩) (fun j=>j*valD b≤S) (fun j=>S - j*valD b) 0 (by kernel_rfl) (by simp) (Sub.of0 [(0,0)] rfl rfl ?_ ?_) ?_
    ·simp only [go_sem,Nat.zero_mul,Nat.sub_zero]
    ·simp only [go_sem]
    rintro j hj;have hx:(dec (S - j*valD b)).length≤1001:=Nat.le_trans (zak (Nat.sub_le ..)) lS;have hcmp:zdN [.str (dec (S - j*valD b)),.str b]=some (.ret (.int .i64 (cmpI ((S - j*valD b:Nat):Int) (valD b)))):=by have:=zcB (dec (S - j*valD b)) b (by rw [zX]) eb (by omega);rwa [zX]at this
    simp (disch:=(first|assumption|omega|(simp only [List.length_take,List.length_drop,List.length_append,List.length_set,List.length_replicate,List.length_cons,List.length_nil,zJ,zae,zad]<;>omega)|fail)) only [go_sem,hcmp,hge];refine AXc.introP (fun h8=>?_) (fun h8=>?_)
    ·obtain⟨W,c1,c2,c3,c4⟩:=ze6 eb lb h8 hx;have hj9:=lt9 j (by omega);simp (disch:=(first|assumption|omega|(simp only [List.length_take,List.length_drop,List.length_append,List.length_set,List.length_replicate,List.length_cons,List.length_nil,zJ,zae,zad]<;>omega)|fail)) only [go_sem,c1,c2,c3,c4];refine zo (j+1) (by rw [Nat.succ_mul];omega) (by rw [Nat.succ_mul];omega) (Sub.of0 [(0,0)] rfl rfl ?_ ?_)
     ·simp only [go_sem,Nat.succ_mul,Nat.sub_add_eq];simp only [V.int.injEq,true_and];omega
     ·simp only [go_sem]
    ·obtain⟨hj9,f1,f2⟩:=fin j hj h8;simp (disch:=(first|assumption|omega|(simp only [List.length_take,List.length_drop,List.length_append,List.length_set,List.length_replicate,List.length_cons,List.length_nil,zJ,zae,zad]<;>omega)|fail)) only [go_sem];refine AXa.go mixed (hΓ) (zg) (by kernel_rfl) ?_;simp (disch:=(first|assumption|omega|(simp only [List.length_take,List.length_drop,List.length_append,List.length_set,List.length_replicate,List.length_cons,List.length_nil,zJ,zae,zad]<;>omega)|fail)) only [go_sem];have hm:valD (a.take (i+1)) % valD b=S - j*valD b:=hq.2.1.trans f2;have hv:valD (((u::w)++[j]).map dg)=valD (a.take (i+1)) / valD b:=by rw [List.map_append,show [j].map dg=[dg j]from rfl,zbz,zpd hj9,hq.1,f1]
     have hwl:w.length+1=i:=h2;refine⟨⟨by simp,by omega,by omega⟩,?_⟩;refine zo (i+1,u::(w++[j])) ⟨by omega,by simp;omega,?_,hv⟩ (by dsimp only;omega) (Sub.of0 [(0,2)] rfl rfl ?_ ?_)
     ·intro x hx;rcases List.mem_cons.1 hx with hx|hx
      ·exact h3 x (by rw [hx];simp)
      ·rcases List.mem_append.1 hx with hx|hx
       ·exact h3 x (List.mem_cons_of_mem _ hx)
       ·simp at hx;omega
     ·simp only [go_sem,acV,acBt,acN,hm,List.map_cons,List.map_nil,List.map_append];simp
     ·simp only [go_sem,acV,acBt,acN,List.map_cons,List.map_nil,List.map_append];simp [nats,List.take_of_length_le]
 ·obtain rfl:i=a.length:=by omega
  rw [List.take_length]at h4 ⊢;rcases w with _|⟨u,w⟩
  ·simp at h2;omega
  simp only [go_sem,acV,acBt,acN,List.map_cons,List.length_map];refine AXa.go mixed (hΓ) (zg) (by kernel_rfl) ?_;simp only [go_sem];have hwl:w.length+1=a.length:=h2;have hml:(w.map (48+·)).length=w.length:=by simp
  refine AXs.loop mixed (hΓ) (zg) (fun k:Nat=>[(7,.sl 0 0 (w.length+1) 1 none),(8,.str (dec (valD a % valD b))),(11,.int .i64 k)]) (fun _=>⟨[(0,.ty 5 (nats .u8 ((48+u)::w.map (48+·))))],1⟩) (fun k=>k≤w.length∧∀ j,j<k→(u::w).getD j 0=0) (fun k=>w.length - k) 0 (by kernel_rfl) ⟨Nat.zero_le _,by intro j hj;omega⟩ (Sub.of0 [(0,0)] rfl rfl ?_ ?_) ?_
  ·simp only [go_sem]
  ·simp only [go_sem]
  rintro k ⟨k1,k2⟩;have hx:nthV (nats .u8 ((48+u)::w.map (48+·))) k=.int .u8 ((48+(u::w).getD k 0:Nat):Int):=by rw [zeE _ _ _ (by simp;omega)];congr 2;have:(48+u)::w.map (48+·)=(u::w).map (48+·):=rfl;rw [this,List.getD_eq_getElem?_getD,List.getElem?_map,List.getD_eq_getElem?_getD,List.getElem?_eq_getElem (by simp;omega)];rfl
  simp (disch:=(first|assumption|omega|(simp only [List.length_take,List.length_drop,List.length_append,List.length_set,List.length_replicate,List.length_cons,List.length_nil,zJ,zae,zad]<;>omega)|fail)) only [go_sem,hx];refine⟨fun h=>⟨h,by omega,by omega⟩,fun h=>⟨h,by rw [hml];omega⟩,?_⟩;have hb2:(decide ((k:Int)<((w.length+1:Nat):Int) - 1)&&decide (((48+(u::w).getD k 0:Nat):Int)=48))=decide (k<w.length∧(u::w).getD k 0=0):=by
   have e1:(k:Int)<((w.length+1:Nat):Int) - 1↔k<w.length:=by omega
   have e2:((48+(u::w).getD k 0:Nat):Int)=48↔(u::w).getD k 0=0:=by omega
   simp only [e1,e2,Bool.decide_and]
  rw [hb2];refine AXc.introP (fun h6=>?_) (fun h6=>?_)
  ·simp (disch:=(first|assumption|omega|(simp only [List.length_take,List.length_drop,List.length_append,List.length_set,List.length_replicate,List.length_cons,List.length_nil,zJ,zae,zad]<;>omega)|fail)) only [go_sem];refine zo (k+1) ⟨by omega,fun j hj=>?_⟩ (by omega) (Sub.of0 [(0,0)] rfl rfl ?_ ?_)
   ·by_cases hjk:j<k
    ·exact k2 j hjk
    ·obtain rfl:j=k:=by omega
     exact h6.2
   ·simp only [go_sem];simp
   ·simp only [go_sem]
  have h7:k=(u::w).length - 1∨(u::w).getD k 0≠0:=by
   by_cases e:k<w.length
   ·exact .inr fun e'=>h6 ⟨e,e'⟩
   ·exact .inl (by simp;omega)
  have hq:=quo_text h3 (by simp;omega) k2 h7;rw [h4]at hq;simp (disch:=(first|assumption|omega|(simp only [List.length_take,List.length_drop,List.length_append,List.length_set,List.length_replicate,List.length_cons,List.length_nil,zJ,zae,zad]<;>omega)|fail)) only [go_sem];refine AXa.go mixed (hΓ) (zg) (by kernel_rfl) ?_;have hby:bytesOf (nats .u8 (((u::w).drop k).map (48+·)))=some (dec (valD a / valD b)):=by rw [zeq fun d hd=>h3 d (List.mem_of_mem_drop hd),hq]
  have hcv:∀ P:Program,P=Tryz.prog→zcU P 197 9 (.sl 0 k (w.length+1 - k) 1 none) ⟨[(0,.ty 5 (nats .u8 ((48+u)::w.map (48+·))))],1⟩=⟨True,.str (dec (valD a / valD b)),⟨[(0,.ty 5 (nats .u8 ((48+u)::w.map (48+·))))],1⟩,[0],[]⟩:=by rintro _ rfl;refine ziz 197 9 5 _ (nats .u8 (((u::w).drop k).map (48+·))) (w.length+1 - k) [0] _ (by kernel_rfl) (by kernel_rfl) (by kernel_rfl) ?_ hby;show (if _∧_ then some _ else none)=_;rw [if_pos ⟨rfl,by simp [nats];omega⟩];have e:(48+u)::w.map (48+·)=(u::w).map (48+·):=rfl;rw [e,Nat.mul_one,List.map_drop];simp only [nats, ←List.map_drop];rw [List.take_of_length_le (by simp)]
  simp (disch:=(first|assumption|omega|(simp only [List.length_take,List.length_drop,List.length_append,List.length_set,List.length_replicate,List.length_cons,List.length_nil,zJ,zae,zad]<;>omega)|fail)) only [go_sem,hcv]
  (repeat refine sdC ?_);exact Int.le_refl _
end Go.Proofs
