import Derived.Test.YthbimeikbkjnkaaGreatDoorPlTen
import Derived.Test.YthbimeikbkjnkaaGreatDoorPlEach
set_option linter.all false
namespace Go.Proofs
open Go.Ab Go.Pl
def cmpI(a b:Int):Int:=if a<b then -1 else if b<a then 1 else 0
theorem zqE(a:Nat):PCall Tryz.prog 239 [.int .u64 a] (.ret (.bool false)):=by refine PCall.walk (rs:=[.tmp 2]) [0,2] [] mixed (zh) (zf) call239 Tryz.func239 rfl Tryz.ntmps239 rfl (by kernel_rfl) (by simp) (by simp [push_cast]) ?_;simp only [go_sem]
noncomputable def zoX:List V→Option PR:=zG (fun a:Nat=>[.int .u64 a]) (fun _=>True) fun _=>.ret (.bool false)
theorem znu(a:Nat):zoX [.int .u64 a]=some (.ret (.bool false)):=zn (pat:=fun a:Nat=>[.int .u64 a]) (fun x y h=>by simp at h;omega) a trivial
theorem znt:∀ args r,zoX args=some r→PCall Tryz.prog 239 args r:=zk fun a _=>zqE a
attribute [go_sem] znu
theorem zlp(a b:Nat):PCall Tryz.prog 217 [.int .u64 a,.int .u64 b] (.ret (.int .i64 (cmpI a b))):=by
 refine PCall.walk (rs:=[.tmp 4]) [0,1,4,5,6,11,12,13,16,19] [] mixed (zg znt zh) (zf) call217 Tryz.func217 rfl Tryz.ntmps217 rfl (by kernel_rfl) (by simp) (by simp [push_cast]) ?_;simp only [go_sem];refine AXc.introP (fun h1=>?_) (fun h1=>?_)
 ·simp only [go_sem];simp [cmpI,h1]
 ·simp only [go_sem];refine AXc.introP (fun h2=>?_) (fun h2=>?_)
  ·simp only [go_sem];simp [cmpI,h1,h2]
  ·simp only [go_sem];simp [cmpI,h1,h2]
noncomputable def zh2:List V→Option PR:=zG (fun p:Nat×Nat=>[.int .u64 p.1,.int .u64 p.2]) (fun _=>True) fun p=>.ret (.int .i64 (cmpI p.1 p.2))
theorem zjK(a b:Nat):zh2 [.int .u64 a,.int .u64 b]=some (.ret (.int .i64 (cmpI a b))):=zn (pat:=fun p:Nat×Nat=>[.int .u64 p.1,.int .u64 p.2]) (fun x y h=>by simp at h;exact Prod.ext (by omega) (by omega)) (a,b) trivial
theorem zjJ:∀ args r,zh2 args=some r→PCall Tryz.prog 217 args r:=zk fun p _=>zlp p.1 p.2
attribute [go_sem] zjK
theorem zuF(a:Int):PCall Tryz.prog 159 [.int .i64 a] (.ret (.bool false)):=by refine PCall.walk (rs:=[.tmp 2]) [0,2] [] mixed (zh) (zf) zvM Tryz.func159 rfl Tryz.ntmps159 rfl (by kernel_rfl) (by simp) (by simp [push_cast]) ?_;simp only [go_sem]
noncomputable def zwq:List V→Option PR:=zG (fun a:Int=>[.int .i64 a]) (fun _=>True) fun _=>.ret (.bool false)
theorem zrQ(a:Int):zwq [.int .i64 a]=some (.ret (.bool false)):=zn (pat:=fun a:Int=>[.int .i64 a]) (fun x y h=>by simpa using h) a trivial
theorem zrP:∀ args r,zwq args=some r→PCall Tryz.prog 159 args r:=zk fun a _=>zuF a
attribute [go_sem] zrQ
theorem zng(a b:Int):PCall Tryz.prog 118 [.int .i64 a,.int .i64 b] (.ret (.int .i64 (cmpI a b))):=by
 refine PCall.walk (rs:=[.tmp 4]) [0,1,4,5,6,11,12,13,16,19] [] mixed (zg zrP zh) (zf) zvP Tryz.func118 rfl Tryz.ntmps118 rfl (by kernel_rfl) (by simp) (by simp [push_cast]) ?_;simp only [go_sem];refine AXc.introP (fun h1=>?_) (fun h1=>?_)
 ·simp only [go_sem];simp [cmpI,h1]
 ·simp only [go_sem];refine AXc.introP (fun h2=>?_) (fun h2=>?_)
  ·simp only [go_sem];simp [cmpI,h1,h2]
  ·simp only [go_sem];simp [cmpI,h1,h2]
noncomputable def zlG:List V→Option PR:=zG (fun p:Int×Int=>[.int .i64 p.1,.int .i64 p.2]) (fun _=>True) fun p=>.ret (.int .i64 (cmpI p.1 p.2))
theorem zlF(a b:Int):zlG [.int .i64 a,.int .i64 b]=some (.ret (.int .i64 (cmpI a b))):=zn (pat:=fun p:Int×Int=>[.int .i64 p.1,.int .i64 p.2]) (fun x y h=>by simp at h;exact Prod.ext h.1 h.2) (a,b) trivial
theorem zlE:∀ args r,zlG args=some r→PCall Tryz.prog 118 args r:=zk fun p _=>zng p.1 p.2
attribute [go_sem] zlF
theorem plus1_ok(a b c:Nat)(ha:a<1000000000)(hb:b<1000000000)(hc:c≤1):PCall Tryz.prog 216 [.int .u64 a,.int .u64 b,.int .u64 c] (.ret (.tup [.int .u64 ((a+b+c) % 1000000000:Nat),.int .u64 ((a+b+c) / 1000000000:Nat)])):=by
 refine PCall.walk (rs:=[.tmp 6,.tmp 7]) [0,1,2,6,7,8] [] mixed (zh) (zf) call216 Tryz.func216 rfl Tryz.ntmps216 rfl (by kernel_rfl) (by simp) (by simp [push_cast]) ?_;simp (disch:=first|assumption|(push_cast<;>omega)|omega) only [go_sem];omega
theorem zt4(a b c:Nat)(ha:a<1000000000)(hb:b<1000000000)(hc:c≤1):PCall Tryz.prog 218 [.int .u64 a,.int .u64 b,.int .u64 c] (.ret (.tup [.int .u64 ((a+1000000000 - b - c) % 1000000000:Nat),.int .u64 (1 - (a+1000000000 - b - c) / 1000000000:Nat)])):=by
 refine PCall.walk (rs:=[.tmp 6,.tmp 7]) [0,1,2,6,7,8] [] mixed (zh) (zf) call218 Tryz.func218 rfl Tryz.ntmps218 rfl (by kernel_rfl) (by simp) (by simp [push_cast]) ?_;simp (disch:=first|assumption|(push_cast<;>omega)|omega) only [go_sem];omega
theorem zpJ(a b c k:Nat)(ha:a<1000000000)(hk:k<1000000000)(hc:c<1000000000):PCall Tryz.prog 228 [.int .u64 a,.int .u64 b,.int .u64 c,.fp [.int .u64 k]] (.ret (.tup [.int .u64 ((a*k+c) % 1000000000:Nat),.int .u64 ((a*k+c) / 1000000000:Nat)])):=by
 refine PCall.walk (rs:=[.tmp 7,.tmp 8]) [0,2,3,7,8,9] [] mixed (zh) (zf) call228 Tryz.func228 rfl Tryz.ntmps228 rfl (by kernel_rfl) (by simp) (by simp [push_cast]) ?_;have hm:(a:Int)*(k:Int)=((a*k:Nat):Int):=by simp
 have hb:a*k≤999999999*999999999:=Nat.mul_le_mul (by omega) (by omega);generalize a*k=p at*;simp (disch:=first|assumption|(push_cast<;>omega)|omega) only [go_sem,hm];omega
set_option maxHeartbeats 4000000 in
theorem zu9(Γ0:FuncId→List V→Option PR)(hΓ0:zcH Tryz.prog Γ0)(fid:FuncId)(caps:List V)(hfid:(fid==153)=false)(hcaps:nzs caps=caps)(hrefs:zbS caps=[])(hpure:∀ x∈caps,Pure x)(F:Nat→Nat→Nat→Nat×Nat)(Q:Nat→Prop)(hQ0:Q 0)
 (hF:∀ a b c:Nat,a<1000000000→b<1000000000→Q c→Γ0 fid (.int .u64 a::.int .u64 b::.int .u64 c::caps)=some (.ret (.tup [.int .u64 (F a b c).1,.int .u64 (F a b c).2]))∧Q (F a b c).2)
 (x y:List Nat) (hx:okL x) (hy:okL y) (hlx:x.length≤1000) (hly:y.length≤1000):
 PCall Tryz.prog 215 [.fs (nats .u64 x) x.length,.fs (nats .u64 y) y.length,.fn fid caps] (.ret (.fs (nats .u64 (zcY F x y)) (zcY F x y).length)):=by
 have getlt:∀ {l:List Nat},okL l→∀ i,l.getD i 0<1000000000:=fun {l} h i=>by
  rw [List.getD_eq_getElem?_getD];by_cases hi:i<l.length
  ·rw [List.getElem?_eq_getElem hi];exact h _ (List.getElem_mem _)
  ·rw [List.getElem?_eq_none (by omega)];simp
 have hpureP:(∀ x∈caps,Ab.Pure x)↔True:=⟨fun _=>trivial,fun _=>hpure⟩
 refine PCall.walk (rs:=[.tmp 6]) [0,1,2,6,7,8,9,10,11,12,18,19,20,25,33] [] mixed (zg zbJ hΓ0) (zf) zvL Tryz.func215 rfl Tryz.ntmps215 rfl (by kernel_rfl) (by simp) (by simp [push_cast,hpureP]) ?_
 have hmx:maxI (x.length:Int) (y.length:Int)=((max x.length y.length:Nat):Int):=by unfold maxI;split<;>omega
 have hmb:max x.length y.length≤1000:=by omega
 generalize hN:max x.length y.length=N at*
 simp (disch:=first|assumption|(push_cast<;>omega)|omega) only [go_sem,hmx]
 have hQ:∀ i,Q (zu F x y i).2:=by
  intro i;induction i with
  |zero=>exact hQ0
  |succ i ih=>exact(hF _ _ _ (getlt hx i) (getlt hy i) ih).2
 refine AXs.loop mixed (zg zbJ hΓ0) (zf) (fun i:Nat=>[(0,.fs (nats .u64 x) x.length),(1,.fs (nats .u64 y) y.length),(2,.fn fid caps),(7,bkV (zu F x y i).1),(8,.int .u64 (zu F x y i).2),(18,.int .i64 (N+1:Int)),(19,.int .i64 i)])
  (fun i=>⟨bkBs (zu F x y i).1,bkN (zu F x y i).1⟩) (fun i=>i≤N+1) (fun i=>N+1 - i) 0 (by kernel_rfl) (Nat.zero_le _) (Sub.of0 [] rfl rfl ?_ ?_) ?_
 ·simp only [go_sem,zu,bkV]
  simpa using zt hpure
 ·simp only [go_sem,zu,bkBs]
 intro i hi
 simp (disch:=first|assumption|(push_cast<;>omega)|omega) only [go_sem]
 refine AXc.introP (fun h1=>?_) (fun h1=>?_)
 ·have hFi:=(hF (x.getD i 0) (y.getD i 0) (zu F x y i).2 (getlt hx i) (getlt hy i) (hQ i)).1
  have hsucc:zu F x y (i+1)=((zu F x y i).1++[(F (x.getD i 0) (y.getD i 0) (zu F x y i).2).1],(F (x.getD i 0) (y.getD i 0) (zu F x y i).2).2):=rfl
  have hlen:=zaD F x y i
  generalize F (x.getD i 0) (y.getD i 0) (zu F x y i).2=r at hFi hsucc
  generalize zu F x y i=q at*
  obtain⟨q1,q2⟩:=q
  dsimp only at hFi hsucc hlen ⊢
  have zx:¬(i:Int)<x.length→x.getD i 0=0:=fun h=>zbd _ _ _ (by omega)
  have zy:¬(i:Int)<y.length→y.getD i 0=0:=fun h=>zbd _ _ _ (by omega)
  by_cases c1:(i:Int)<x.length<;>by_cases c2:(i:Int)<y.length
  all_goals
   try rw [zx c1]at hFi
   try rw [zy c2]at hFi
   try simp only [Int.natCast_zero]at hFi
   rcases q1 with _|⟨d,l⟩
   ·simp (disch:=first|assumption|(push_cast<;>omega)|omega) only [go_sem,bkV,bkBs,bkN,c1,c2,hfid,hcaps,hrefs,hFi]
    repeat refine And.intro (by omega) ?_
    refine zo (i+1) (by omega) (by omega) (Sub.of0 [(0,1)] rfl (by rw [hsucc];rfl) ?_ ?_)
    ·rw [hsucc]
     simp only [go_sem,bkV,bkBs,bkN]
     simpa using zt hpure
    ·rw [hsucc]
     simp only [go_sem,bkV,bkBs,bkN]
     simp [nats]
   ·have hll:l.length+1=i:=hlen
    simp (disch:=first|assumption|(push_cast<;>omega)|omega) only [go_sem,bkV,bkBs,bkN,c1,c2,hfid,hcaps,hrefs,hFi]
    repeat refine And.intro (by omega) ?_
    refine zo (i+1) (by omega) (by omega) (Sub.of0 [(0,2)] rfl (by rw [hsucc];rfl) ?_ ?_)
    ·rw [hsucc]
     simp only [go_sem,bkV,bkBs,bkN]
     simpa using zt hpure
    ·rw [hsucc]
     simp only [go_sem,bkV,bkBs,bkN]
     simp [nats]
 ·have hie:i=N+1:=by omega
  subst hie
  have hlen:=zaD F x y (N+1)
  have he:zcY F x y=zaf (zu F x y (N+1)).1:=by unfold zcY;rw [hN]
  rw [he]
  generalize zu F x y (N+1)=q at*
  obtain⟨q1,q2⟩:=q
  dsimp only at hlen ⊢
  rcases q1 with _|⟨d,l⟩
  ·simp at hlen
  ·have hll:l.length+1=N+1:=hlen
   simp only [go_sem,bkV,bkBs,bkN]
   refine AXa.fz [0] rfl rfl rfl (env':=[(7,.fs (nats .u64 (d::l)) (d::l).length)]) (bs':=[]) (n':=1) ?_ ?_ ?_
   ·simp only [go_sem]
    right
    exact FrzF.slp (by simp) rfl rfl (by simp [zbU]) (by simp [zb3]) (zaa _ _)
   ·simp only [go_sem]
   refine AXa.go mixed (zg zbJ hΓ0) (zf) (by kernel_rfl) ?_
   simp (disch:=first|assumption|(push_cast<;>omega)|omega) only [go_sem]
end Go.Proofs

namespace Go.Proofs
open Go.Ab Go.Pl
theorem zbI(x y:Nat):cmpI (x:Int) (y:Int)=if x<y then -1 else if y<x then 1 else 0:=by simp only [cmpI,Int.ofNat_lt]
theorem zbM {x y:Nat}(h:limbs x=limbs y):x=y:=by rw [←zB x,h,zB]
set_option maxHeartbeats 4000000 in
theorem znh(x y:Nat)(hx:(limbs x).length≤1000)(hy:(limbs y).length≤1000):PCall Tryz.prog 185 [.fs (nats .u64 (limbs x)) (limbs x).length,.fs (nats .u64 (limbs y)) (limbs y).length] (.ret (.int .i64 (cmpI x y))):=by
 have hΓ:=zg zjJ (zg zlE (zh (P:=Tryz.prog)));refine PCall.walk (rs:=[.tmp 4]) [0,1,4,5,6,11,18,19,20,40] [] mixed (hΓ) (zf) call185 Tryz.func185 rfl Tryz.ntmps185 rfl (by kernel_rfl) (by simp) (by simp [push_cast]) ?_;simp only [go_sem];refine AXc.introN (fun h1=>?_) (fun h1=>?_)
 ·simp only [go_sem];rw [zbI,zbI];by_cases h2:(limbs x).length<(limbs y).length
  ·have:=zaI h2;simp [h2,this]
  ·have h3:(limbs y).length<(limbs x).length:=by omega
   have:=zaI h3;simp [h2,h3,this];omega
 ·have hlen:(limbs x).length=(limbs y).length:=by omega
  have ox:=zC x;have oy:=zC y;have vx:=zB x;have vy:=zB y;generalize limbs x=l at*;generalize limbs y=r at*;subst vx vy;simp only [go_sem];refine AXs.loop mixed (hΓ) (zf) (fun i:Nat=>[(0,.fs (nats .u64 l) l.length),(1,.fs (nats .u64 r) r.length),(18,.int .i64 l.length),(19,.int .i64 i)]) (fun _=>⟨[],0⟩) (fun i=>i≤l.length∧∀ j,l.length - i≤j→l.getD j 0=r.getD j 0) (fun i=>l.length - i) 0 (by kernel_rfl)
   ⟨Nat.zero_le _,fun j hj=>by rw [zbd _ _ _ (by omega),zbd _ _ _ (by omega)]⟩ (Sub.of0 [] rfl rfl ?_ ?_) ?_
  ·simp only [go_sem]
  ·simp only [go_sem]
  rintro i ⟨hi,hd⟩;simp (disch:=first|assumption|(push_cast<;>omega)|omega) only [go_sem];refine AXc.introP (fun h2=>?_) (fun h2=>?_)
  ·simp (disch:=first|assumption|(push_cast<;>omega)|omega) only [go_sem];repeat refine And.intro (by omega) ?_
   have hk:l.length - 1 - i<l.length:=by omega
   have hup:∀ j,l.length - 1 - i<j→l.getD j 0=r.getD j 0:=fun j hj=>hd j (by omega);refine AXc.introN (fun h3=>?_) (fun h3=>?_)
   ·simp only [go_sem];rw [zbI]at h3 ⊢;rw [zbI];by_cases h4:l.getD (l.length - 1 - i) 0<r.getD (l.length - 1 - i) 0
    ·have:=zeI ox hlen hk hup h4;simp only [h4,this,if_true]
    ·by_cases h5:r.getD (l.length - 1 - i) 0<l.getD (l.length - 1 - i) 0
     ·have:=zeI oy hlen.symm (by omega) (fun j hj=>(hup j hj).symm) h5;rw [if_neg h4,if_pos h5,if_neg (by omega),if_pos this]
     ·exact absurd (by rw [if_neg h4,if_neg h5]) h3
   ·simp (disch:=first|assumption|(push_cast<;>omega)|omega) only [go_sem];refine zo (i+1) ⟨by omega,fun j hj=>?_⟩ (by omega) (Sub.of0 [] rfl rfl ?_ ?_)
    ·by_cases hje:j=l.length - 1 - i
     ·subst hje;simp only [cmpI]at h3;split at h3
      ·omega
      ·split at h3<;>omega
     ·exact hup j (by omega)
    ·simp only [go_sem];simp
    ·simp only [go_sem]
  ·have hie:i=l.length:=by omega
   subst hie;simp only [go_sem];refine AXa.go mixed (hΓ) (zf) (by kernel_rfl) ?_;simp only [go_sem];have:l=r:=zld hlen fun j=>hd j (by omega);subst this;simp [cmpI]
noncomputable def zlI:List V→Option PR:=zG (fun p:Nat×Nat=>[.fs (nats .u64 (limbs p.1)) (limbs p.1).length,.fs (nats .u64 (limbs p.2)) (limbs p.2).length]) (fun p=>(limbs p.1).length≤1000∧(limbs p.2).length≤1000) fun p=>.ret (.int .i64 (cmpI p.1 p.2))
theorem zif {x y:Nat×Nat}(h:[V.fs (nats .u64 (limbs x.1)) (limbs x.1).length,.fs (nats .u64 (limbs x.2)) (limbs x.2).length]=[.fs (nats .u64 (limbs y.1)) (limbs y.1).length,.fs (nats .u64 (limbs y.2)) (limbs y.2).length]):x=y:=by simp at h;exact Prod.ext (zbM (zar h.1.1)) (zbM (zar h.2.1))
theorem zlH(x y n m:Nat)(hn:n=(limbs x).length)(hm:m=(limbs y).length)(hx:(limbs x).length≤1000)(hy:(limbs y).length≤1000):zlI [.fs (nats .u64 (limbs x)) n,.fs (nats .u64 (limbs y)) m]=some (.ret (.int .i64 (cmpI x y))):=by subst hn hm;exact zn (pat:=fun p:Nat×Nat=>[V.fs (nats .u64 (limbs p.1)) (limbs p.1).length,.fs (nats .u64 (limbs p.2)) (limbs p.2).length]) (fun _ _ h=>zif h) (x,y) ⟨hx,hy⟩
theorem zds:∀ args r,zlI args=some r→PCall Tryz.prog 185 args r:=zk fun p h=>znh p.1 p.2 h.1 h.2
attribute [go_sem] zlH
theorem zfP {a b c a' b' c':Nat}{r:List V}(h:V.int .u64 a::.int .u64 b::.int .u64 c::r=V.int .u64 a'::.int .u64 b'::.int .u64 c'::r):(a,b,c)=(a',b',c'):=by simp at h;simp;omega
noncomputable def cPlus1:List V→Option PR:=zG (fun p:Nat×Nat×Nat=>[.int .u64 p.1,.int .u64 p.2.1,.int .u64 p.2.2]) (fun p=>p.1<1000000000∧p.2.1<1000000000∧p.2.2≤1) fun p=>.ret (.tup [.int .u64 (zbc p.1 p.2.1 p.2.2).1,.int .u64 (zbc p.1 p.2.1 p.2.2).2])
theorem zv7:∀ args r,cPlus1 args=some r→PCall Tryz.prog 216 args r:=zk fun p h=>plus1_ok p.1 p.2.1 p.2.2 h.1 h.2.1 h.2.2
noncomputable def zwb:List V→Option PR:=zG (fun p:Nat×Nat×Nat=>[.int .u64 p.1,.int .u64 p.2.1,.int .u64 p.2.2]) (fun p=>p.1<1000000000∧p.2.1<1000000000∧p.2.2≤1) fun p=>.ret (.tup [.int .u64 (zac p.1 p.2.1 p.2.2).1,.int .u64 (zac p.1 p.2.1 p.2.2).2])
theorem zrO:∀ args r,zwb args=some r→PCall Tryz.prog 218 args r:=zk fun p h=>zt4 p.1 p.2.1 p.2.2 h.1 h.2.1 h.2.2
noncomputable def zoR(k:Nat):List V→Option PR:=zG (fun p:Nat×Nat×Nat=>[.int .u64 p.1,.int .u64 p.2.1,.int .u64 p.2.2,.fp [.int .u64 k]]) (fun p=>p.1<1000000000∧k<1000000000∧p.2.2<1000000000) fun p=>.ret (.tup [.int .u64 (zD k p.1 p.2.1 p.2.2).1,.int .u64 (zD k p.1 p.2.1 p.2.2).2])
theorem znq(k:Nat):∀ args r,zoR k args=some r→PCall Tryz.prog 228 args r:=zk fun p h=>zpJ p.1 p.2.1 p.2.2 k h.1 h.2.1 h.2.2
theorem zna(x y:List Nat)(hx:okL x)(hy:okL y)(hlx:x.length≤1000)(hly:y.length≤1000):
 PCall Tryz.prog 215 [.fs (nats .u64 x) x.length,.fs (nats .u64 y) y.length,.fn 216 []] (.ret (.fs (nats .u64 (limbs (valL x+valL y))) (limbs (valL x+valL y)).length)):=by
 rw [←zod hx hy]
 refine zu9 (extΓ 216 cPlus1 noΓ) (zg zv7 zh) 216 [] rfl rfl rfl (by simp) zbc (· ≤1) (by simp) (fun a b c ha hb hc=>⟨?_,?_⟩) x y hx hy hlx hly
 ·exact zn (pat:=fun p:Nat×Nat×Nat=>[V.int .u64 p.1,.int .u64 p.2.1,.int .u64 p.2.2]) (cond:=fun p=>p.1<1000000000∧p.2.1<1000000000∧p.2.2≤1) (res:=fun p=>.ret (.tup [.int .u64 (zbc p.1 p.2.1 p.2.2).1,.int .u64 (zbc p.1 p.2.1 p.2.2).2])) (fun x y h=>zfP h) (a,b,c) ⟨ha,hb,hc⟩
 ·unfold zbc;dsimp only;omega
theorem zlf(x y:List Nat)(hx:okL x)(hy:okL y)(hlx:x.length≤1000)(hly:y.length≤1000)(hle:valL y≤valL x):
 PCall Tryz.prog 215 [.fs (nats .u64 x) x.length,.fs (nats .u64 y) y.length,.fn 218 []] (.ret (.fs (nats .u64 (limbs (valL x - valL y))) (limbs (valL x - valL y)).length)):=by
 rw [←zkH hx hy hle]
 refine zu9 (extΓ 218 zwb noΓ) (zg zrO zh) 218 [] rfl rfl rfl (by simp) zac (· ≤1) (by simp) (fun a b c ha hb hc=>⟨?_,?_⟩) x y hx hy hlx hly
 ·exact zn (pat:=fun p:Nat×Nat×Nat=>[V.int .u64 p.1,.int .u64 p.2.1,.int .u64 p.2.2]) (cond:=fun p=>p.1<1000000000∧p.2.1<1000000000∧p.2.2≤1) (res:=fun p=>.ret (.tup [.int .u64 (zac p.1 p.2.1 p.2.2).1,.int .u64 (zac p.1 p.2.1 p.2.2).2])) (fun x y h=>zfP h) (a,b,c) ⟨ha,hb,hc⟩
 ·unfold zac;dsimp only;omega
noncomputable def zlB:List V→Option PR:=zG (fun p:List Nat×List Nat=>[.fs (nats .u64 p.1) p.1.length,.fs (nats .u64 p.2) p.2.length,.fn 216 []]) (fun p=>okL p.1∧okL p.2∧p.1.length≤1000∧p.2.length≤1000) fun p=>.ret (.fs (nats .u64 (limbs (valL p.1+valL p.2))) (limbs (valL p.1+valL p.2)).length)
theorem zlz:∀ args r,zlB args=some r→PCall Tryz.prog 215 args r:=zk fun p h=>zna p.1 p.2 h.1 h.2.1 h.2.2.1 h.2.2.2
theorem zlA(x y:Nat)(hx:(limbs x).length≤1000)(hy:(limbs y).length≤1000):zlB [.fs (nats .u64 (limbs x)) (limbs x).length,.fs (nats .u64 (limbs y)) (limbs y).length,.fn 216 []]=some (.ret (.fs (nats .u64 (limbs (x+y))) (limbs (x+y)).length)):=by
 have:=zn (pat:=fun p:List Nat×List Nat=>[V.fs (nats .u64 p.1) p.1.length,.fs (nats .u64 p.2) p.2.length,.fn 216 []]) (cond:=fun p=>okL p.1∧okL p.2∧p.1.length≤1000∧p.2.length≤1000) (res:=fun p=>.ret (.fs (nats .u64 (limbs (valL p.1+valL p.2))) (limbs (valL p.1+valL p.2)).length))
  (fun a b h=>by simp at h;exact Prod.ext (zar h.1.1) (zar h.2.1)) (limbs x,limbs y) ⟨zC x,zC y,hx,hy⟩
 simp only [zB]at this;exact this
noncomputable def zh0:List V→Option PR:=zG (fun p:List Nat×List Nat=>[.fs (nats .u64 p.1) p.1.length,.fs (nats .u64 p.2) p.2.length,.fn 218 []]) (fun p=>okL p.1∧okL p.2∧p.1.length≤1000∧p.2.length≤1000∧valL p.2≤valL p.1) fun p=>.ret (.fs (nats .u64 (limbs (valL p.1 - valL p.2))) (limbs (valL p.1 - valL p.2)).length)
theorem zjH:∀ args r,zh0 args=some r→PCall Tryz.prog 215 args r:=zk fun p h=>zlf p.1 p.2 h.1 h.2.1 h.2.2.1 h.2.2.2.1 h.2.2.2.2
theorem zjI(x y:Nat)(hx:(limbs x).length≤1000)(hy:(limbs y).length≤1000)(hle:y≤x):zh0 [.fs (nats .u64 (limbs x)) (limbs x).length,.fs (nats .u64 (limbs y)) (limbs y).length,.fn 218 []]=some (.ret (.fs (nats .u64 (limbs (x - y))) (limbs (x - y)).length)):=by
 have:=zn (pat:=fun p:List Nat×List Nat=>[V.fs (nats .u64 p.1) p.1.length,.fs (nats .u64 p.2) p.2.length,.fn 218 []]) (cond:=fun p=>okL p.1∧okL p.2∧p.1.length≤1000∧p.2.length≤1000∧valL p.2≤valL p.1) (res:=fun p=>.ret (.fs (nats .u64 (limbs (valL p.1 - valL p.2))) (limbs (valL p.1 - valL p.2)).length))
  (fun a b h=>by simp at h;exact Prod.ext (zar h.1.1) (zar h.2.1)) (limbs x,limbs y) ⟨zC x,zC y,hx,hy,by rw [zB,zB];exact hle⟩
 simp only [zB]at this;exact this
attribute [go_sem] zlA zjI
theorem plusB_ok(x y:Nat)(hx:(limbs x).length≤1000)(hy:(limbs y).length≤1000):PCall Tryz.prog 184 [.fs (nats .u64 (limbs x)) (limbs x).length,.fs (nats .u64 (limbs y)) (limbs y).length] (.ret (.fs (nats .u64 (limbs (x+y))) (limbs (x+y)).length)):=by
 refine PCall.walk (rs:=[.tmp 4]) [0,1,4] [] mixed (zg zlz zh) (zf) call184 Tryz.func184 rfl Tryz.ntmps184 rfl (by kernel_rfl) (by simp) (by simp [push_cast]) ?_;simp (disch:=first|assumption|(push_cast<;>omega)|omega) only [go_sem]
theorem zt3(x y:Nat)(hx:(limbs x).length≤1000)(hy:(limbs y).length≤1000)(hle:y≤x):PCall Tryz.prog 186 [.fs (nats .u64 (limbs x)) (limbs x).length,.fs (nats .u64 (limbs y)) (limbs y).length] (.ret (.fs (nats .u64 (limbs (x - y))) (limbs (x - y)).length)):=by
 refine PCall.walk (rs:=[.tmp 4]) [0,1,4] [] mixed (zg zjH zh) (zf) call186 Tryz.func186 rfl Tryz.ntmps186 rfl (by kernel_rfl) (by simp) (by simp [push_cast]) ?_;simp (disch:=first|assumption|(push_cast<;>omega)|omega) only [go_sem]
end Go.Proofs
