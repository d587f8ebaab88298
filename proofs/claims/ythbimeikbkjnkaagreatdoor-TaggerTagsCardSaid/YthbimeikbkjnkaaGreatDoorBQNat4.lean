import Derived.Test.YthbimeikbkjnkaaGreatDoorBF2a
set_option linter.all false
namespace Go.Proofs
open Go.Ab Go.Pl
theorem zbx(x y:Nat):cmpI (x:Int) (y:Int)=if x<y then -1 else if y<x then 1 else 0:=by simp only [cmpI,Int.ofNat_lt]
theorem zb6 {x y:Nat}(h:limbs x=limbs y):x=y:=by rw [←zD x,h,zD]
set_option maxHeartbeats 4000000 in
theorem zoZ(x y:Nat)(hx:(limbs x).length≤1000)(hy:(limbs y).length≤1000):PCall Tryz.prog 185 [.fs (nats .u64 (limbs x)) (limbs x).length,.fs (nats .u64 (limbs y)) (limbs y).length] (.ret (.int .i64 (cmpI x y))):=by
 have hΓ:=zg zk1 (zg znb (zh (P:=Tryz.prog)));refine PCall.walk (rs:=[.tmp 4]) [0,1,4,5,6,11,18,19,20,40] [] mixed (hΓ) (zf) call185 Tryz.func185 rfl Tryz.ntmps185 rfl (by kernel_rfl) (by simp) (by simp [push_cast]) ?_;simp only [go_sem];refine AXc.introN (fun h1=>?_) (fun h1=>?_)
 ·simp only [go_sem];rw [zbx,zbx];by_cases h2:(limbs x).length<(limbs y).length
  ·have:=zaS h2;simp [h2,this]
  ·have h3:(limbs y).length<(limbs x).length:=by omega
   have:=zaS h3;simp [h2,h3,this];omega
 ·have hlen:(limbs x).length=(limbs y).length:=by omega
  have ox:=zG x;have oy:=zG y;have vx:=zD x;have vy:=zD y;generalize limbs x=l at*;generalize limbs y=r at*;subst vx vy;simp only [go_sem];refine AXs.loop mixed (hΓ) (zf) (fun i:Nat=>[(0,.fs (nats .u64 l) l.length),(1,.fs (nats .u64 r) r.length),(18,.int .i64 l.length),(19,.int .i64 i)]) (fun _=>⟨[],0⟩) (fun i=>i≤l.length∧∀ j,l.length - i≤j→l.getD j 0=r.getD j 0) (fun i=>l.length - i) 0 (by kernel_rfl)
   ⟨Nat.zero_le _,fun j hj=>by rw [zaZ _ _ _ (by omega),zaZ _ _ _ (by omega)]⟩ (Sub.of0 [] rfl rfl ?_ ?_) ?_
  ·simp only [go_sem]
  ·simp only [go_sem]
  rintro i ⟨hi,hd⟩;simp (disch:=first|assumption|(push_cast<;>omega)|omega) only [go_sem];refine AXc.introP (fun h2=>?_) (fun h2=>?_)
  ·simp (disch:=first|assumption|(push_cast<;>omega)|omega) only [go_sem];repeat refine And.intro (by omega) ?_
   have hk:l.length - 1 - i<l.length:=by omega
   have hup:∀ j,l.length - 1 - i<j→l.getD j 0=r.getD j 0:=fun j hj=>hd j (by omega);refine AXc.introN (fun h3=>?_) (fun h3=>?_)
   ·simp only [go_sem];rw [zbx]at h3 ⊢;rw [zbx];by_cases h4:l.getD (l.length - 1 - i) 0<r.getD (l.length - 1 - i) 0
    ·have:=zft ox hlen hk hup h4;simp only [h4,this,if_true]
    ·by_cases h5:r.getD (l.length - 1 - i) 0<l.getD (l.length - 1 - i) 0
     ·have:=zft oy hlen.symm (by omega) (fun j hj=>(hup j hj).symm) h5;rw [if_neg h4,if_pos h5,if_neg (by omega),if_pos this]
     ·exact absurd (by rw [if_neg h4,if_neg h5]) h3
   ·simp (disch:=first|assumption|(push_cast<;>omega)|omega) only [go_sem];refine zk (i+1) ⟨by omega,fun j hj=>?_⟩ (by omega) (Sub.of0 [] rfl rfl ?_ ?_)
    ·by_cases hje:j=l.length - 1 - i
     ·subst hje;simp only [cmpI]at h3;split at h3
      ·omega
      ·split at h3<;>omega
     ·exact hup j (by omega)
    ·simp only [go_sem];simp
    ·simp only [go_sem]
  ·have hie:i=l.length:=by omega
   subst hie;simp only [go_sem];refine AXa.go mixed (hΓ) (zf) (by kernel_rfl) ?_;simp only [go_sem];have:l=r:=zmD hlen fun j=>hd j (by omega);subst this;simp [cmpI]
noncomputable def znf:List V→Option PR:=zB (fun p:Nat×Nat=>[.fs (nats .u64 (limbs p.1)) (limbs p.1).length,.fs (nats .u64 (limbs p.2)) (limbs p.2).length]) (fun p=>(limbs p.1).length≤1000∧(limbs p.2).length≤1000) fun p=>.ret (.int .i64 (cmpI p.1 p.2))
theorem zjx {x y:Nat×Nat}(h:[V.fs (nats .u64 (limbs x.1)) (limbs x.1).length,.fs (nats .u64 (limbs x.2)) (limbs x.2).length]=[.fs (nats .u64 (limbs y.1)) (limbs y.1).length,.fs (nats .u64 (limbs y.2)) (limbs y.2).length]):x=y:=by simp at h;exact Prod.ext (zb6 (zah h.1.1)) (zb6 (zah h.2.1))
theorem zne(x y n m:Nat)(hn:n=(limbs x).length)(hm:m=(limbs y).length)(hx:(limbs x).length≤1000)(hy:(limbs y).length≤1000):znf [.fs (nats .u64 (limbs x)) n,.fs (nats .u64 (limbs y)) m]=some (.ret (.int .i64 (cmpI x y))):=by subst hn hm;exact zo (pat:=fun p:Nat×Nat=>[V.fs (nats .u64 (limbs p.1)) (limbs p.1).length,.fs (nats .u64 (limbs p.2)) (limbs p.2).length]) (fun _ _ h=>zjx h) (x,y) ⟨hx,hy⟩
theorem zd2:∀ args r,znf args=some r→PCall Tryz.prog 185 args r:=zn fun p h=>zoZ p.1 p.2 h.1 h.2
attribute [go_sem] zne
theorem zgS {a b c a' b' c':Nat}{r:List V}(h:V.int .u64 a::.int .u64 b::.int .u64 c::r=V.int .u64 a'::.int .u64 b'::.int .u64 c'::r):(a,b,c)=(a',b',c'):=by simp at h;simp;omega
noncomputable def cPlus1:List V→Option PR:=zB (fun p:Nat×Nat×Nat=>[.int .u64 p.1,.int .u64 p.2.1,.int .u64 p.2.2]) (fun p=>p.1<1000000000∧p.2.1<1000000000∧p.2.2≤1) fun p=>.ret (.tup [.int .u64 (plusF p.1 p.2.1 p.2.2).1,.int .u64 (plusF p.1 p.2.1 p.2.2).2])
theorem zzc:∀ args r,cPlus1 args=some r→PCall Tryz.prog 216 args r:=zn fun p h=>plus1_ok p.1 p.2.1 p.2.2 h.1 h.2.1 h.2.2
noncomputable def zzg:List V→Option PR:=zB (fun p:Nat×Nat×Nat=>[.int .u64 p.1,.int .u64 p.2.1,.int .u64 p.2.2]) (fun p=>p.1<1000000000∧p.2.1<1000000000∧p.2.2≤1) fun p=>.ret (.tup [.int .u64 (minusF p.1 p.2.1 p.2.2).1,.int .u64 (minusF p.1 p.2.1 p.2.2).2])
theorem zua:∀ args r,zzg args=some r→PCall Tryz.prog 218 args r:=zn fun p h=>zwC p.1 p.2.1 p.2.2 h.1 h.2.1 h.2.2
noncomputable def zqR(k:Nat):List V→Option PR:=zB (fun p:Nat×Nat×Nat=>[.int .u64 p.1,.int .u64 p.2.1,.int .u64 p.2.2,.fp [.int .u64 k]]) (fun p=>p.1<1000000000∧k<1000000000∧p.2.2<1000000000) fun p=>.ret (.tup [.int .u64 (zH k p.1 p.2.1 p.2.2).1,.int .u64 (zH k p.1 p.2.1 p.2.2).2])
theorem zpa(k:Nat):∀ args r,zqR k args=some r→PCall Tryz.prog 228 args r:=zn fun p h=>zrU p.1 p.2.1 p.2.2 k h.1 h.2.1 h.2.2
theorem zoS(x y:List Nat)(hx:okL x)(hy:okL y)(hlx:x.length≤1000)(hly:y.length≤1000):
 PCall Tryz.prog 215 [.fs (nats .u64 x) x.length,.fs (nats .u64 y) y.length,.fn 216 []] (.ret (.fs (nats .u64 (limbs (valL x+valL y))) (limbs (valL x+valL y)).length)):=by
 rw [←zp2 hx hy]
 refine zxM (extΓ 216 cPlus1 noΓ) (zg zzc zh) 216 [] rfl rfl rfl (by simp) plusF (· ≤1) (by simp) (fun a b c ha hb hc=>⟨?_,?_⟩) x y hx hy hlx hly
 ·exact zo (pat:=fun p:Nat×Nat×Nat=>[V.int .u64 p.1,.int .u64 p.2.1,.int .u64 p.2.2]) (cond:=fun p=>p.1<1000000000∧p.2.1<1000000000∧p.2.2≤1) (res:=fun p=>.ret (.tup [.int .u64 (plusF p.1 p.2.1 p.2.2).1,.int .u64 (plusF p.1 p.2.1 p.2.2).2])) (fun x y h=>zgS h) (a,b,c) ⟨ha,hb,hc⟩
 ·unfold plusF;dsimp only;omega
theorem zmF(x y:List Nat)(hx:okL x)(hy:okL y)(hlx:x.length≤1000)(hly:y.length≤1000)(hle:valL y≤valL x):
 PCall Tryz.prog 215 [.fs (nats .u64 x) x.length,.fs (nats .u64 y) y.length,.fn 218 []] (.ret (.fs (nats .u64 (limbs (valL x - valL y))) (limbs (valL x - valL y)).length)):=by
 rw [←zl4 hx hy hle]
 refine zxM (extΓ 218 zzg noΓ) (zg zua zh) 218 [] rfl rfl rfl (by simp) minusF (· ≤1) (by simp) (fun a b c ha hb hc=>⟨?_,?_⟩) x y hx hy hlx hly
 ·exact zo (pat:=fun p:Nat×Nat×Nat=>[V.int .u64 p.1,.int .u64 p.2.1,.int .u64 p.2.2]) (cond:=fun p=>p.1<1000000000∧p.2.1<1000000000∧p.2.2≤1) (res:=fun p=>.ret (.tup [.int .u64 (minusF p.1 p.2.1 p.2.2).1,.int .u64 (minusF p.1 p.2.1 p.2.2).2])) (fun x y h=>zgS h) (a,b,c) ⟨ha,hb,hc⟩
 ·unfold minusF;dsimp only;omega
noncomputable def zm8:List V→Option PR:=zB (fun p:List Nat×List Nat=>[.fs (nats .u64 p.1) p.1.length,.fs (nats .u64 p.2) p.2.length,.fn 216 []]) (fun p=>okL p.1∧okL p.2∧p.1.length≤1000∧p.2.length≤1000) fun p=>.ret (.fs (nats .u64 (limbs (valL p.1+valL p.2))) (limbs (valL p.1+valL p.2)).length)
theorem zm6:∀ args r,zm8 args=some r→PCall Tryz.prog 215 args r:=zn fun p h=>zoS p.1 p.2 h.1 h.2.1 h.2.2.1 h.2.2.2
theorem zm7(x y:Nat)(hx:(limbs x).length≤1000)(hy:(limbs y).length≤1000):zm8 [.fs (nats .u64 (limbs x)) (limbs x).length,.fs (nats .u64 (limbs y)) (limbs y).length,.fn 216 []]=some (.ret (.fs (nats .u64 (limbs (x+y))) (limbs (x+y)).length)):=by
 have:=zo (pat:=fun p:List Nat×List Nat=>[V.fs (nats .u64 p.1) p.1.length,.fs (nats .u64 p.2) p.2.length,.fn 216 []]) (cond:=fun p=>okL p.1∧okL p.2∧p.1.length≤1000∧p.2.length≤1000) (res:=fun p=>.ret (.fs (nats .u64 (limbs (valL p.1+valL p.2))) (limbs (valL p.1+valL p.2)).length))
  (fun a b h=>by simp at h;exact Prod.ext (zah h.1.1) (zah h.2.1)) (limbs x,limbs y) ⟨zG x,zG y,hx,hy⟩
 simp only [zD]at this;exact this
noncomputable def zji:List V→Option PR:=zB (fun p:List Nat×List Nat=>[.fs (nats .u64 p.1) p.1.length,.fs (nats .u64 p.2) p.2.length,.fn 218 []]) (fun p=>okL p.1∧okL p.2∧p.1.length≤1000∧p.2.length≤1000∧valL p.2≤valL p.1) fun p=>.ret (.fs (nats .u64 (limbs (valL p.1 - valL p.2))) (limbs (valL p.1 - valL p.2)).length)
theorem zkZ:∀ args r,zji args=some r→PCall Tryz.prog 215 args r:=zn fun p h=>zmF p.1 p.2 h.1 h.2.1 h.2.2.1 h.2.2.2.1 h.2.2.2.2
theorem zk0(x y:Nat)(hx:(limbs x).length≤1000)(hy:(limbs y).length≤1000)(hle:y≤x):zji [.fs (nats .u64 (limbs x)) (limbs x).length,.fs (nats .u64 (limbs y)) (limbs y).length,.fn 218 []]=some (.ret (.fs (nats .u64 (limbs (x - y))) (limbs (x - y)).length)):=by
 have:=zo (pat:=fun p:List Nat×List Nat=>[V.fs (nats .u64 p.1) p.1.length,.fs (nats .u64 p.2) p.2.length,.fn 218 []]) (cond:=fun p=>okL p.1∧okL p.2∧p.1.length≤1000∧p.2.length≤1000∧valL p.2≤valL p.1) (res:=fun p=>.ret (.fs (nats .u64 (limbs (valL p.1 - valL p.2))) (limbs (valL p.1 - valL p.2)).length))
  (fun a b h=>by simp at h;exact Prod.ext (zah h.1.1) (zah h.2.1)) (limbs x,limbs y) ⟨zG x,zG y,hx,hy,by rw [zD,zD];exact hle⟩
 simp only [zD]at this;exact this
attribute [go_sem] zm7 zk0
theorem plusB_ok(x y:Nat)(hx:(limbs x).length≤1000)(hy:(limbs y).length≤1000):PCall Tryz.prog 184 [.fs (nats .u64 (limbs x)) (limbs x).length,.fs (nats .u64 (limbs y)) (limbs y).length] (.ret (.fs (nats .u64 (limbs (x+y))) (limbs (x+y)).length)):=by
 refine PCall.walk (rs:=[.tmp 4]) [0,1,4] [] mixed (zg zm6 zh) (zf) call184 Tryz.func184 rfl Tryz.ntmps184 rfl (by kernel_rfl) (by simp) (by simp [push_cast]) ?_;simp (disch:=first|assumption|(push_cast<;>omega)|omega) only [go_sem]
theorem zwB(x y:Nat)(hx:(limbs x).length≤1000)(hy:(limbs y).length≤1000)(hle:y≤x):PCall Tryz.prog 186 [.fs (nats .u64 (limbs x)) (limbs x).length,.fs (nats .u64 (limbs y)) (limbs y).length] (.ret (.fs (nats .u64 (limbs (x - y))) (limbs (x - y)).length)):=by
 refine PCall.walk (rs:=[.tmp 4]) [0,1,4] [] mixed (zg zkZ zh) (zf) call186 Tryz.func186 rfl Tryz.ntmps186 rfl (by kernel_rfl) (by simp) (by simp [push_cast]) ?_;simp (disch:=first|assumption|(push_cast<;>omega)|omega) only [go_sem]
end Go.Proofs

namespace Go.Proofs
open Go.Ab Go.Pl
def zhR:Prop:=∀ n:Nat,(limbs n).length≤100000→PCall Tryz.prog 180 [.fs (nats .u64 (limbs n)) (limbs n).length] (.ret (.str (dec n)))
noncomputable def cText:List V→Option PR:=zB (fun n:Nat=>[.fs (nats .u64 (limbs n)) (limbs n).length]) (fun n=>(limbs n).length≤100000) fun n=>.ret (.str (dec n))
theorem cText_eq(n m:Nat)(hm:m=(limbs n).length)(h:(limbs n).length≤100000):cText [.fs (nats .u64 (limbs n)) m]=some (.ret (.str (dec n))):=by subst hm;exact zo (pat:=fun n:Nat=>[V.fs (nats .u64 (limbs n)) (limbs n).length]) (fun x y h=>by simp at h;exact zb6 (zah h.1)) n h
theorem zgB(hT:zhR):∀ args r,cText args=some r→PCall Tryz.prog 180 args r:=zn hT
noncomputable def zzI:List V→Option PR:=zB (fun a:List UInt8=>[.str a]) (fun a=>a.all zaP=true∧a.length≤1000) fun a=>.ret (.fs (nats .u64 (limbs (valD a))) (limbs (valD a)).length)
theorem zum(a:List UInt8)(h1:a.all zaP=true)(h2:a.length≤1000):zzI [.str a]=some (.ret (.fs (nats .u64 (limbs (valD a))) (limbs (valD a)).length)):=zo (pat:=fun a:List UInt8=>[V.str a]) (fun x y h=>by simpa using h) a ⟨h1,h2⟩
theorem zcl:∀ args r,zzI args=some r→PCall Tryz.prog 151 args r:=zn fun a h=>zzO a h.1 h.2
noncomputable def cPlusB:List V→Option PR:=zB (fun p:Nat×Nat=>[.fs (nats .u64 (limbs p.1)) (limbs p.1).length,.fs (nats .u64 (limbs p.2)) (limbs p.2).length]) (fun p=>(limbs p.1).length≤1000∧(limbs p.2).length≤1000) fun p=>.ret (.fs (nats .u64 (limbs (p.1+p.2))) (limbs (p.1+p.2)).length)
theorem zzb(x y n m:Nat)(hn:n=(limbs x).length)(hm:m=(limbs y).length)(hx:(limbs x).length≤1000)(hy:(limbs y).length≤1000):cPlusB [.fs (nats .u64 (limbs x)) n,.fs (nats .u64 (limbs y)) m]=some (.ret (.fs (nats .u64 (limbs (x+y))) (limbs (x+y)).length)):=by subst hn hm;exact zo (pat:=fun p:Nat×Nat=>[V.fs (nats .u64 (limbs p.1)) (limbs p.1).length,.fs (nats .u64 (limbs p.2)) (limbs p.2).length]) (fun _ _ h=>zjx h) (x,y) ⟨hx,hy⟩
theorem zza:∀ args r,cPlusB args=some r→PCall Tryz.prog 184 args r:=zn fun p h=>plusB_ok p.1 p.2 h.1 h.2
noncomputable def zzf:List V→Option PR:=zB (fun p:Nat×Nat=>[.fs (nats .u64 (limbs p.1)) (limbs p.1).length,.fs (nats .u64 (limbs p.2)) (limbs p.2).length]) (fun p=>(limbs p.1).length≤1000∧(limbs p.2).length≤1000∧p.2≤p.1) fun p=>.ret (.fs (nats .u64 (limbs (p.1 - p.2))) (limbs (p.1 - p.2)).length)
theorem zt9(x y n m:Nat)(hn:n=(limbs x).length)(hm:m=(limbs y).length)(hx:(limbs x).length≤1000)(hy:(limbs y).length≤1000)(hle:y≤x):zzf [.fs (nats .u64 (limbs x)) n,.fs (nats .u64 (limbs y)) m]=some (.ret (.fs (nats .u64 (limbs (x - y))) (limbs (x - y)).length)):=by subst hn hm;exact zo (pat:=fun p:Nat×Nat=>[V.fs (nats .u64 (limbs p.1)) (limbs p.1).length,.fs (nats .u64 (limbs p.2)) (limbs p.2).length]) (fun _ _ h=>zjx h) (x,y) ⟨hx,hy,hle⟩
theorem zt8:∀ args r,zzf args=some r→PCall Tryz.prog 186 args r:=zn fun p h=>zwB p.1 p.2 h.1 h.2.1 h.2.2
attribute [go_sem] cText_eq zum zzb zt9
def limV(n:Nat):V:=if 1000<(dec n).length then .tup [.str [],.int .i64 2]else .tup [.str (dec n),.int .i64 0]
theorem zsz(hT:zhR)(n:Nat)(hn:(limbs n).length≤100000):PCall Tryz.prog 152 [.fs (nats .u64 (limbs n)) (limbs n).length] (.ret (limV n)):=by
 refine PCall.walk (rs:=[.tmp 2,.tmp 3]) [0,2,3,4,9] [] mixed (zg (zgB hT) zh) (zf) call152 Tryz.func152 rfl Tryz.ntmps152 rfl (by kernel_rfl) (by simp) (by simp [push_cast]) ?_;simp (disch:=first|assumption|(push_cast<;>omega)|omega) only [go_sem];refine AXc.introP (fun h1=>?_) (fun h1=>?_)
 ·have:1000<(dec n).length:=by omega
  simp only [go_sem,limV,this]
 ·have:¬1000<(dec n).length:=by omega
  simp only [go_sem,limV,this]
noncomputable def zq2:List V→Option PR:=zB (fun n:Nat=>[.fs (nats .u64 (limbs n)) (limbs n).length]) (fun n=>(limbs n).length≤100000) fun n=>.ret (limV n)
theorem zpe(n m:Nat)(hm:m=(limbs n).length)(h:(limbs n).length≤100000):zq2 [.fs (nats .u64 (limbs n)) m]=some (.ret (limV n)):=by subst hm;exact zo (pat:=fun n:Nat=>[V.fs (nats .u64 (limbs n)) (limbs n).length]) (fun x y h=>by simp at h;exact zb6 (zah h.1)) n h
theorem zhJ(hT:zhR):∀ args r,zq2 args=some r→PCall Tryz.prog 152 args r:=zn (zsz hT)
attribute [go_sem] zpe
theorem zV {a:List UInt8}(h:zF a=true):a.all zaP=true:=(validN_iff.1 h).2
theorem zM {a:List UInt8}(h:zF a=true):a.length≤1000:=(validN_iff.1 h).1.2
def errV(e:Int):V:=.tup [.str [],.int .i64 e]
def addV(a b:List UInt8):V:=if zF a=true∧zF b=true then limV (valD a+valD b)else errV 1
theorem zgx(n:Nat):∃ s e,limV n=.tup [.str s,.int .i64 e]:=by unfold limV;split<;>exact⟨_,_,rfl⟩
theorem zwA(hT:zhR)(a b:List UInt8):PCall Tryz.prog 156 [.str a,.str b] (.ret (addV a b)):=by
 refine PCall.walk (rs:=[.tmp 4,.tmp 5]) [0,1,4,5,13] [] mixed (zg zcv (zg zcl (zg zza (zg (zhJ hT) zh)))) (zf) call156 Tryz.func156 rfl Tryz.ntmps156 rfl (by kernel_rfl) (by simp) (by simp [push_cast]) ?_;by_cases ha:zF a=true
 ·by_cases hb:zF b=true
  ·have da:=zV ha;have la:=zM ha;have db:=zV hb;have lb:=zM hb;have ba:=zbC da la;have bb:=zbC db lb;have bs:=zma ba bb;obtain⟨s,e,hse⟩:=zgx (valD a+valD b);simp (disch:=first|assumption|(push_cast<;>omega)|omega) only [go_sem,addV,ha,hb,hse]
  ·simp only [go_sem,addV,ha,hb,errV]
 ·simp only [go_sem,addV,ha,errV]
end Go.Proofs

namespace Go.Proofs
open Go.Ab Go.Pl
theorem zlB {k:IntKind}{l:List Nat}{n d:Nat}{v:Int}(h:v=(d:Nat)):(nats k l).set n (.int k v)=nats k (l.set n d):=by rw [h,zjO]
theorem zkL(k:IntKind)(n:Nat):ints k (List.replicate n 0)=nats k (List.replicate n 0):=by simp [ints,nats]
def mulV(a b:List UInt8):V:=if zF a=true∧zF b=true then limV (valD a*valD b)else errV 1
set_option maxHeartbeats 4000000 in
theorem zww(hT:zhR)(a b:List UInt8):PCall Tryz.prog 115 [.str a,.str b] (.ret (mulV a b)):=by
 have hΓ:=zg zcv (zg zcl (zg zb2 (zg (zhJ hT) zh)));refine PCall.walk (rs:=[.tmp 4,.tmp 5]) [0,1,4,5,6,7,8,9,10,11,12,20,33,34,35,39,40,41,54] [] mixed (hΓ) (zf) call115 Tryz.func115 rfl Tryz.ntmps115 rfl (by kernel_rfl) (by simp) (by simp [push_cast]) ?_;by_cases ha:zF a=true
 case neg=>simp only [go_sem,mulV,ha,errV]
 by_cases hb:zF b=true
 case neg=>simp only [go_sem,mulV,ha,hb,errV]
 have da:=zV ha;have la:=zM ha;have db:=zV hb;have lb:=zM hb;have ba:=zbC da la;have bb:=zbC db lb;have bm:=zl9 ba bb;obtain⟨s,e,hse⟩:=zgx (valD a*valD b);have hres:mulV a b=.tup [.str s,.int .i64 e]:=by unfold mulV;rw [if_pos ⟨ha,hb⟩,hse]
 rw [hres];have ox:=zG (valD a);have oy:=zG (valD b);have hfin:∀ l,mulOut (limbs (valD a)) (limbs (valD b)) (limbs (valD a)).length l→zat l=limbs (valD a*valD b):=fun l h=>by rw [zqa h,zD,zD]
 simp (disch:=first|assumption|(push_cast<;>omega)|omega) only [go_sem,ha,hb];generalize limbs (valD a)=x at*;generalize limbs (valD b)=y at*;simp (disch:=first|assumption|(push_cast<;>omega)|omega) only [go_sem,zjz,zkL];refine⟨by omega,?_⟩;refine AXs.loop mixed (hΓ) (zf) (fun(p:Nat×List Nat)=>[(6,.fs (nats .u64 x) x.length),(7,.fs (nats .u64 y) y.length),(8,.sl 0 0 (x.length+y.length+1) 1 (some (x.length+y.length+1))),(33,.int .i64 x.length),(34,.int .i64 p.1)]) (fun p=>⟨[(0,.cells (nats .u64 p.2))],1⟩)
  (fun p=>p.1≤x.length∧mulOut x y p.1 p.2) (fun p=>x.length - p.1) (0,List.replicate (x.length+y.length+1) 0) (by kernel_rfl) ⟨Nat.zero_le _,mul_start x y⟩ (Sub.of0 [] rfl rfl ?_ ?_) ?_
 ·simp only [go_sem]
 ·simp only [go_sem]
 rintro⟨i,l0⟩ ⟨hi,ho⟩;dsimp only at hi ho ⊢;simp (disch:=first|assumption|(push_cast<;>omega)|omega) only [go_sem];refine AXc.introP (fun h1=>?_) (fun h1=>?_)
 ·have hix:i<x.length:=by omega
  simp (disch:=first|assumption|(push_cast<;>omega)|omega) only [go_sem];refine AXs.loop mixed (hΓ) (zf) (fun(p:Nat×List Nat×Nat)=>[(6,.fs (nats .u64 x) x.length),(7,.fs (nats .u64 y) y.length),(8,.sl 0 0 (x.length+y.length+1) 1 (some (x.length+y.length+1))),(9,.int .i64 i),(10,.int .u64 p.2.2),(33,.int .i64 x.length),(34,.int .i64 i),(39,.int .i64 (y.length+1:Int)),(40,.int .i64 p.1)]) (fun p=>⟨[(0,.cells (nats .u64 p.2.1))],1⟩)
   (fun p=>p.1≤y.length+1∧mulInv x y i (valL l0) p.1 p.2.1 p.2.2) (fun p=>y.length+1 - p.1) (0,l0,0) (by kernel_rfl) ⟨Nat.zero_le _,mul_row ho⟩ (Sub.of0 [] rfl rfl ?_ ?_) ?_
  ·simp only [go_sem]
  ·simp only [go_sem]
  rintro⟨k,l,c⟩ ⟨hk,hv⟩;dsimp only at hk hv ⊢;have hl:=hv.1;have hkl:=hv.2.1;have hcl:=hv.2.2.1;simp (disch:=first|assumption|(push_cast<;>omega)|omega) only [go_sem];refine AXc.introP (fun h2=>?_) (fun h2=>?_)
  ·have hky:k≤y.length:=by omega
   have hst:=mul_step ox oy hix hky hv;have hpl:=mulP_lt (i:=i) (k:=k) ox oy hkl hcl;have hgl:=getD_lt hkl (i+k);have hm:(x.getD i 0:Int)*(y.getD k 0:Int)=((x.getD i 0*y.getD k 0:Nat):Int):=by simp
   have hp1:mulP x y i k l c=l.getD (i+k) 0+c+x.getD i 0*y.getD k 0:=rfl;have hyz:¬(k:Int)<y.length→x.getD i 0*y.getD k 0=0:=fun h=>by rw [zaZ y _ _ (by omega)];simp
   generalize x.getD i 0*y.getD k 0=q at*;by_cases h3:(k:Int)<y.length
   ·simp (disch:=first|assumption|(push_cast<;>omega)|omega) only [go_sem,h3,hm];repeat refine And.intro (by omega) ?_
    refine zk (k+1,l.set (i+k) (mulP x y i k l c % 1000000000),mulP x y i k l c / 1000000000) ⟨by omega,hst⟩ (by dsimp only;omega) (Sub.of0 [] rfl rfl ?_ ?_)
    ·simp only [go_sem];rw [hp1];simp only [V.int.injEq,true_and];omega
    ·simp only [go_sem];rw [zlB (d:=mulP x y i k l c % 1000000000) (by rw [hp1];omega)]
   ·have hq0:=hyz h3;subst hq0;simp (disch:=first|assumption|(push_cast<;>omega)|omega) only [go_sem,h3];repeat refine And.intro (by omega) ?_
    refine zk (k+1,l.set (i+k) (mulP x y i k l c % 1000000000),mulP x y i k l c / 1000000000) ⟨by omega,hst⟩ (by dsimp only;omega) (Sub.of0 [] rfl rfl ?_ ?_)
    ·simp only [go_sem];rw [hp1];simp only [V.int.injEq,true_and];omega
    ·simp only [go_sem];rw [zlB (d:=mulP x y i k l c % 1000000000) (by rw [hp1];omega)]
  ·have hke:k=y.length+1:=by omega
   subst hke;have hen:=mul_end ho hv;simp (disch:=first|assumption|(push_cast<;>omega)|omega) only [go_sem];refine AXa.go mixed (hΓ) (zf) (by kernel_rfl) ?_;simp (disch:=first|assumption|(push_cast<;>omega)|omega) only [go_sem];refine zk (i+1,l) ⟨by omega,hen⟩ (by dsimp only;omega) (Sub.of0 [] rfl rfl ?_ ?_)
   ·simp only [go_sem];simp
   ·simp only [go_sem]
 ·have hie:i=x.length:=by omega
  subst hie;have hll:=ho.1;have hft:=hfin l0 ho;simp only [go_sem];refine AXa.fz [0] rfl rfl rfl (env':=[(8,.fs (nats .u64 l0) l0.length)]) (bs':=[]) (n':=1) ?_ ?_ ?_
  ·simp only [go_sem];right;exact FrzF.slp (by simp) rfl (by omega) (by simp [zL];omega) (by rw [List.drop_zero,Nat.mul_one,zbL, ←hll,List.take_length]) (zU _ _)
  ·simp only [go_sem]
  refine AXa.go mixed (hΓ) (zf) (by kernel_rfl) ?_;simp (disch:=first|assumption|(push_cast<;>omega)|omega) only [go_sem,hft,hse]
end Go.Proofs

namespace Go.Proofs
open Go.Ab Go.Pl
def subV(a b:List UInt8):V:=if zF a=true∧zF b=true then(if valD a<valD b then errV 4 else .tup [.str (dec (valD a - valD b)),.int .i64 0])else errV 1
def cmpV(a b:List UInt8):Int:=if zF a=true∧zF b=true then cmpI (valD a) (valD b)else 0
theorem zwv(hT:zhR)(a b:List UInt8):PCall Tryz.prog 158 [.str a,.str b] (.ret (subV a b)):=by
 refine PCall.walk (rs:=[.tmp 4,.tmp 5]) [0,1,4,5,6,7,15,23] [] mixed (zg zcv (zg zcl (zg zd2 (zg zt8 (zg (zgB hT) zh))))) (zf) call158 Tryz.func158 rfl Tryz.ntmps158 rfl (by kernel_rfl) (by simp) (by simp [push_cast]) ?_;by_cases ha:zF a=true
 case neg=>simp only [go_sem,subV,ha,errV]
 by_cases hb:zF b=true
 case neg=>simp only [go_sem,subV,ha,hb,errV]
 have da:=zV ha;have la:=zM ha;have db:=zV hb;have lb:=zM hb;have ba:=zbC da la;have bb:=zbC db lb;simp (disch:=first|assumption|(push_cast<;>omega)|omega) only [go_sem,ha,hb];refine AXc.introP (fun h1=>?_) (fun h1=>?_)
 ·have h2:valD a<valD b:=by
   rw [zbx]at h1
   split at h1
   ·assumption
   ·split at h1<;>omega
  simp (disch:=first|assumption|(push_cast<;>omega)|omega) only [go_sem,subV,ha,hb,h2,errV]
 ·have h2:valD b≤valD a:=by
   rw [zbx]at h1
   split at h1
   ·omega
   ·omega
  have h3:¬valD a<valD b:=by omega
  have bs:=zl8 (y:=valD b) ba
  simp (disch:=first|assumption|(push_cast<;>omega)|omega) only [go_sem,subV,ha,hb,h3]
theorem zwz(a b:List UInt8):PCall Tryz.prog 157 [.str a,.str b] (.ret (.int .i64 (cmpV a b))):=by
 refine PCall.walk (rs:=[.tmp 4]) [0,1,4,12] [] mixed (zg zcv (zg zcl (zg zd2 zh))) (zf) call157 Tryz.func157 rfl Tryz.ntmps157 rfl (by kernel_rfl) (by simp) (by simp [push_cast]) ?_;by_cases ha:zF a=true
 case neg=>simp only [go_sem,cmpV,ha]
 by_cases hb:zF b=true
 case neg=>simp only [go_sem,cmpV,ha,hb]
 have da:=zV ha;have la:=zM ha;have db:=zV hb;have lb:=zM hb;have ba:=zbC da la;have bb:=zbC db lb;simp (disch:=first|assumption|(push_cast<;>omega)|omega) only [go_sem,cmpV,ha,hb]
end Go.Proofs
