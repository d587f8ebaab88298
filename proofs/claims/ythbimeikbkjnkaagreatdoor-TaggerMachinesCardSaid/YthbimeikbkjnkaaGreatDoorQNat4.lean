import Derived.Test.YthbimeikbkjnkaaGreatDoorF2a
set_option linter.all false
set_option maxHeartbeats 16000000
set_option maxRecDepth 100000
namespace Go.Proofs
open Tryz Go.Ab Go.Pl
theorem zbF(x y:Nat):cmpI (x:Int) (y:Int)=if x<y then -1 else if y<x then 1 else 0:=by simp only [cmpI,Int.ofNat_lt]
theorem zck {x y:Nat}(h:limbs x=limbs y):x=y:=by rw [←zC x,h,zC]
theorem zp5(x y:Nat)(hx:(limbs x).length≤1000)(hy:(limbs y).length≤1000):PCall prog 185 [.fs (nats .u64 (limbs x)) (limbs x).length,.fs (nats .u64 (limbs y)) (limbs y).length] (.ret (.int .i64 (cmpI x y))):=by
 have hΓ:=zf zlK (zf zn7 (zh (P:=prog)));refine PCall.wD (rs:=[.tmp 4]) [0,1,4,5,6,11,18,19,20,40] [] mixed (hΓ) (zg) call185 func185 rfl ntmps185 rfl ?_;simp only [go_sem];refine AXc.introN (fun h1=>?_) (fun h1=>?_)
 ·simp only [go_sem];rw [zbF,zbF];by_cases h2:(limbs x).length<(limbs y).length
  ·have:=zaY h2;simp [h2,this]
  ·have h3:(limbs y).length<(limbs x).length:=by omega
   have:=zaY h3;simp [h2,h3,this];omega
 ·have hlen:(limbs x).length=(limbs y).length:=by omega
  have ox:=zF x;have oy:=zF y;have vx:=zC x;have vy:=zC y;generalize limbs x=l at*;generalize limbs y=r at*;subst vx vy;simp only [go_sem];refine AXs.loop mixed (hΓ) (zg) (fun i:Nat=>[(0,.fs (nats .u64 l) l.length),(1,.fs (nats .u64 r) r.length),(18,.int .i64 l.length),(19,.int .i64 i)]) (fun _=>⟨[],0⟩) (fun i=>i≤l.length∧∀ j,l.length - i≤j→l.getD j 0=r.getD j 0) (fun i=>l.length - i) 0 (by kernel_rfl)
   ⟨Yk _,fun j hj=>by rw [za6 _ _ _ (by omega),za6 _ _ _ (by omega)]⟩ (Sub.of0 [] rfl rfl ?_ ?_) ?_
  ·simp only [go_sem]
  ·simp only [go_sem]
  rintro i ⟨hi,hd⟩;simp (disch:=first|exact Zq|fail) only [go_sem];refine AXc.introP (fun h2=>?_) (fun h2=>?_)
  ·simp (disch:=first|exact Zq|fail) only [go_sem];repeat refine And.intro (by omega) ?_
   have hk:l.length - 1 - i<l.length:=by omega
   have hup:∀ j,l.length - 1 - i<j→l.getD j 0=r.getD j 0:=fun j hj=>hd j (by omega);refine AXc.introN (fun h3=>?_) (fun h3=>?_)
   ·simp only [go_sem];rw [zbF]at h3 ⊢;rw [zbF];by_cases h4:l.getD (l.length - 1 - i) 0<r.getD (l.length - 1 - i) 0
    ·have:=zfX ox hlen hk hup h4;simp only [h4,this,if_true]
    ·by_cases h5:r.getD (l.length - 1 - i) 0<l.getD (l.length - 1 - i) 0
     ·have:=zfX oy hlen.symm (by omega) (fun j hj=>(hup j hj).symm) h5;rw [Yd h4,Yf h5,Yd (by omega),Yf this]
     ·exact absurd (by rw [Yd h4,Yd h5]) h3
   ·simp (disch:=first|exact Zq|fail) only [go_sem];refine zi (i+1) ⟨by omega,fun j hj=>?_⟩ (by omega) (Sub.of0 [] rfl rfl ?_ ?_)
    ·by_cases hje:j=l.length - 1 - i
     ·subst hje;simp only [cmpI]at h3;split at h3
      ·omega
      ·split at h3<;>omega
     ·exact hup j (by omega)
    ·simp only [go_sem];simp
    ·simp only [go_sem]
  ·have hie:i=l.length:=by omega
   subst hie;simp only [go_sem];refine AXa.go mixed (hΓ) (zg) (by kernel_rfl) ?_;simp only [go_sem];have:l=r:=znv hlen fun j=>hd j (by omega);subst this;simp [cmpI]
noncomputable def zob:List V→Option PR:=zu (fun p:Nat×Nat=>[.fs (nats .u64 (limbs p.1)) (limbs p.1).length,.fs (nats .u64 (limbs p.2)) (limbs p.2).length]) (fun p=>(limbs p.1).length≤1000∧(limbs p.2).length≤1000) fun p=>.ret (.int .i64 (cmpI p.1 p.2))
theorem zkc {x y:Nat×Nat}(h:[V.fs (nats .u64 (limbs x.1)) (limbs x.1).length,.fs (nats .u64 (limbs x.2)) (limbs x.2).length]=[.fs (nats .u64 (limbs y.1)) (limbs y.1).length,.fs (nats .u64 (limbs y.2)) (limbs y.2).length]):x=y:=by simp at h;exact YT (zck (zax h.1.1)) (zck (zax h.2.1))
theorem zoa(x y n m:Nat)(hn:n=(limbs x).length)(hm:m=(limbs y).length)(hx:(limbs x).length≤1000)(hy:(limbs y).length≤1000):zob [.fs (nats .u64 (limbs x)) n,.fs (nats .u64 (limbs y)) m]=some (.ret (.int .i64 (cmpI x y))):=by subst hn hm;exact zo (pat:=fun p:Nat×Nat=>[V.fs (nats .u64 (limbs p.1)) (limbs p.1).length,.fs (nats .u64 (limbs p.2)) (limbs p.2).length]) (fun _ _ h=>zkc h) (x,y) ⟨hx,hy⟩
theorem zep:∀ args r,zob args=some r→PCall prog 185 args r:=zn fun p h=>zp5 p.1 p.2 h.1 h.2
attribute [go_sem] zoa
theorem zhq {a b c a' b' c':Nat}{r:List V}(h:V.int .u64 a::.int .u64 b::.int .u64 c::r=V.int .u64 a'::.int .u64 b'::.int .u64 c'::r):(a,b,c)=(a',b',c'):=by simp at h;simp;omega
noncomputable def cPlus1:List V→Option PR:=zu (fun p:Nat×Nat×Nat=>[.int .u64 p.1,.int .u64 p.2.1,.int .u64 p.2.2]) (fun p=>p.1<1000000000∧p.2.1<1000000000∧p.2.2≤1) fun p=>.ret (.tup [.int .u64 (plusF p.1 p.2.1 p.2.2).1,.int .u64 (plusF p.1 p.2.1 p.2.2).2])
theorem zAR:∀ args r,cPlus1 args=some r→PCall prog 216 args r:=zn fun p h=>plus1_ok p.1 p.2.1 p.2.2 h.1 h.2.1 h.2.2
noncomputable def zAV:List V→Option PR:=zu (fun p:Nat×Nat×Nat=>[.int .u64 p.1,.int .u64 p.2.1,.int .u64 p.2.2]) (fun p=>p.1<1000000000∧p.2.1<1000000000∧p.2.2≤1) fun p=>.ret (.tup [.int .u64 (minusF p.1 p.2.1 p.2.2).1,.int .u64 (minusF p.1 p.2.1 p.2.2).2])
theorem zvG:∀ args r,zAV args=some r→PCall prog 218 args r:=zn fun p h=>zyj p.1 p.2.1 p.2.2 h.1 h.2.1 h.2.2
noncomputable def zrW(k:Nat):List V→Option PR:=zu (fun p:Nat×Nat×Nat=>[.int .u64 p.1,.int .u64 p.2.1,.int .u64 p.2.2,.fp [.int .u64 k]]) (fun p=>p.1<1000000000∧k<1000000000∧p.2.2<1000000000) fun p=>.ret (.tup [.int .u64 (zG k p.1 p.2.1 p.2.2).1,.int .u64 (zG k p.1 p.2.1 p.2.2).2])
theorem zqe(k:Nat):∀ args r,zrW k args=some r→PCall prog 228 args r:=zn fun p h=>zta p.1 p.2.1 p.2.2 k h.1 h.2.1 h.2.2
theorem zpW(x y:List Nat)(hx:okL x)(hy:okL y)(hlx:x.length≤1000)(hly:y.length≤1000):
 PCall prog 215 [.fs (nats .u64 x) x.length,.fs (nats .u64 y) y.length,.fn 216 []] (.ret (.fs (nats .u64 (limbs (valL x+valL y))) (limbs (valL x+valL y)).length)):=by
 rw [←zq9 hx hy]
 refine zzv (extΓ 216 cPlus1 noΓ) (zf zAR zh) 216 [] rfl rfl rfl (by simp) plusF (· ≤1) (by simp) (fun a b c ha hb hc=>⟨?_,?_⟩) x y hx hy hlx hly
 ·exact zo (pat:=fun p:Nat×Nat×Nat=>[V.int .u64 p.1,.int .u64 p.2.1,.int .u64 p.2.2]) (cond:=fun p=>p.1<1000000000∧p.2.1<1000000000∧p.2.2≤1) (res:=fun p=>.ret (.tup [.int .u64 (plusF p.1 p.2.1 p.2.2).1,.int .u64 (plusF p.1 p.2.1 p.2.2).2])) (fun x y h=>zhq h) (a,b,c) ⟨ha,hb,hc⟩
 ·unfold plusF;dsimp only;omega
theorem znx(x y:List Nat)(hx:okL x)(hy:okL y)(hlx:x.length≤1000)(hly:y.length≤1000)(hle:valL y≤valL x):
 PCall prog 215 [.fs (nats .u64 x) x.length,.fs (nats .u64 y) y.length,.fn 218 []] (.ret (.fs (nats .u64 (limbs (valL x - valL y))) (limbs (valL x - valL y)).length)):=by
 rw [←zmT hx hy hle]
 refine zzv (extΓ 218 zAV noΓ) (zf zvG zh) 218 [] rfl rfl rfl (by simp) minusF (· ≤1) (by simp) (fun a b c ha hb hc=>⟨?_,?_⟩) x y hx hy hlx hly
 ·exact zo (pat:=fun p:Nat×Nat×Nat=>[V.int .u64 p.1,.int .u64 p.2.1,.int .u64 p.2.2]) (cond:=fun p=>p.1<1000000000∧p.2.1<1000000000∧p.2.2≤1) (res:=fun p=>.ret (.tup [.int .u64 (minusF p.1 p.2.1 p.2.2).1,.int .u64 (minusF p.1 p.2.1 p.2.2).2])) (fun x y h=>zhq h) (a,b,c) ⟨ha,hb,hc⟩
 ·unfold minusF;dsimp only;omega
noncomputable def zn4:List V→Option PR:=zu (fun p:List Nat×List Nat=>[.fs (nats .u64 p.1) p.1.length,.fs (nats .u64 p.2) p.2.length,.fn 216 []]) (fun p=>okL p.1∧okL p.2∧p.1.length≤1000∧p.2.length≤1000) fun p=>.ret (.fs (nats .u64 (limbs (valL p.1+valL p.2))) (limbs (valL p.1+valL p.2)).length)
theorem zn2:∀ args r,zn4 args=some r→PCall prog 215 args r:=zn fun p h=>zpW p.1 p.2 h.1 h.2.1 h.2.2.1 h.2.2.2
theorem zn3(x y:Nat)(hx:(limbs x).length≤1000)(hy:(limbs y).length≤1000):zn4 [.fs (nats .u64 (limbs x)) (limbs x).length,.fs (nats .u64 (limbs y)) (limbs y).length,.fn 216 []]=some (.ret (.fs (nats .u64 (limbs (x+y))) (limbs (x+y)).length)):=by
 have:=zo (pat:=fun p:List Nat×List Nat=>[V.fs (nats .u64 p.1) p.1.length,.fs (nats .u64 p.2) p.2.length,.fn 216 []]) (cond:=fun p=>okL p.1∧okL p.2∧p.1.length≤1000∧p.2.length≤1000) (res:=fun p=>.ret (.fs (nats .u64 (limbs (valL p.1+valL p.2))) (limbs (valL p.1+valL p.2)).length))
  (fun a b h=>by simp at h;exact YT (zax h.1.1) (zax h.2.1)) (limbs x,limbs y) ⟨zF x,zF y,hx,hy⟩
 simp only [zC]at this;exact this
noncomputable def zjY:List V→Option PR:=zu (fun p:List Nat×List Nat=>[.fs (nats .u64 p.1) p.1.length,.fs (nats .u64 p.2) p.2.length,.fn 218 []]) (fun p=>okL p.1∧okL p.2∧p.1.length≤1000∧p.2.length≤1000∧valL p.2≤valL p.1) fun p=>.ret (.fs (nats .u64 (limbs (valL p.1 - valL p.2))) (limbs (valL p.1 - valL p.2)).length)
theorem zlI:∀ args r,zjY args=some r→PCall prog 215 args r:=zn fun p h=>znx p.1 p.2 h.1 h.2.1 h.2.2.1 h.2.2.2.1 h.2.2.2.2
theorem zlJ(x y:Nat)(hx:(limbs x).length≤1000)(hy:(limbs y).length≤1000)(hle:y≤x):zjY [.fs (nats .u64 (limbs x)) (limbs x).length,.fs (nats .u64 (limbs y)) (limbs y).length,.fn 218 []]=some (.ret (.fs (nats .u64 (limbs (x - y))) (limbs (x - y)).length)):=by
 have:=zo (pat:=fun p:List Nat×List Nat=>[V.fs (nats .u64 p.1) p.1.length,.fs (nats .u64 p.2) p.2.length,.fn 218 []]) (cond:=fun p=>okL p.1∧okL p.2∧p.1.length≤1000∧p.2.length≤1000∧valL p.2≤valL p.1) (res:=fun p=>.ret (.fs (nats .u64 (limbs (valL p.1 - valL p.2))) (limbs (valL p.1 - valL p.2)).length))
  (fun a b h=>by simp at h;exact YT (zax h.1.1) (zax h.2.1)) (limbs x,limbs y) ⟨zF x,zF y,hx,hy,by rw [zC,zC];exact hle⟩
 simp only [zC]at this;exact this
attribute [go_sem] zn3 zlJ
theorem plusB_ok(x y:Nat)(hx:(limbs x).length≤1000)(hy:(limbs y).length≤1000):PCall prog 184 [.fs (nats .u64 (limbs x)) (limbs x).length,.fs (nats .u64 (limbs y)) (limbs y).length] (.ret (.fs (nats .u64 (limbs (x+y))) (limbs (x+y)).length)):=by
 refine PCall.wD (rs:=[.tmp 4]) [0,1,4] [] mixed (zf zn2 zh) (zg) call184 func184 rfl ntmps184 rfl ?_;simp (disch:=first|exact Zq|fail) only [go_sem]
theorem zyi(x y:Nat)(hx:(limbs x).length≤1000)(hy:(limbs y).length≤1000)(hle:y≤x):PCall prog 186 [.fs (nats .u64 (limbs x)) (limbs x).length,.fs (nats .u64 (limbs y)) (limbs y).length] (.ret (.fs (nats .u64 (limbs (x - y))) (limbs (x - y)).length)):=by
 refine PCall.wD (rs:=[.tmp 4]) [0,1,4] [] mixed (zf zlI zh) (zg) call186 func186 rfl ntmps186 rfl ?_;simp (disch:=first|exact Zq|fail) only [go_sem]
def ziB:Prop:=∀ n:Nat,(limbs n).length≤100000→PCall prog 180 [.fs (nats .u64 (limbs n)) (limbs n).length] (.ret (.str (dec n)))
noncomputable def cText:List V→Option PR:=zu (fun n:Nat=>[.fs (nats .u64 (limbs n)) (limbs n).length]) (fun n=>(limbs n).length≤100000) fun n=>.ret (.str (dec n))
theorem cText_eq(n m:Nat)(hm:m=(limbs n).length)(h:(limbs n).length≤100000):cText [.fs (nats .u64 (limbs n)) m]=some (.ret (.str (dec n))):=by subst hm;exact zo (pat:=fun n:Nat=>[V.fs (nats .u64 (limbs n)) (limbs n).length]) (fun x y h=>by simp at h;exact zck (zax h.1)) n h
theorem zg8(hT:ziB):∀ args r,cText args=some r→PCall prog 180 args r:=zn hT
noncomputable def zBk:List V→Option PR:=zu (fun a:List UInt8=>[.str a]) (fun a=>a.all zaV=true∧a.length≤1000) fun a=>.ret (.fs (nats .u64 (limbs (valD a))) (limbs (valD a)).length)
theorem zvO(a:List UInt8)(h1:a.all zaV=true)(h2:a.length≤1000):zBk [.str a]=some (.ret (.fs (nats .u64 (limbs (valD a))) (limbs (valD a)).length)):=zo (pat:=fun a:List UInt8=>[V.str a]) (fun x y h=>by simpa using h) a ⟨h1,h2⟩
theorem zcA:∀ args r,zBk args=some r→PCall prog 151 args r:=zn fun a h=>zBq a h.1 h.2
noncomputable def cPlusB:List V→Option PR:=zu (fun p:Nat×Nat=>[.fs (nats .u64 (limbs p.1)) (limbs p.1).length,.fs (nats .u64 (limbs p.2)) (limbs p.2).length]) (fun p=>(limbs p.1).length≤1000∧(limbs p.2).length≤1000) fun p=>.ret (.fs (nats .u64 (limbs (p.1+p.2))) (limbs (p.1+p.2)).length)
theorem zAQ(x y n m:Nat)(hn:n=(limbs x).length)(hm:m=(limbs y).length)(hx:(limbs x).length≤1000)(hy:(limbs y).length≤1000):cPlusB [.fs (nats .u64 (limbs x)) n,.fs (nats .u64 (limbs y)) m]=some (.ret (.fs (nats .u64 (limbs (x+y))) (limbs (x+y)).length)):=by subst hn hm;exact zo (pat:=fun p:Nat×Nat=>[V.fs (nats .u64 (limbs p.1)) (limbs p.1).length,.fs (nats .u64 (limbs p.2)) (limbs p.2).length]) (fun _ _ h=>zkc h) (x,y) ⟨hx,hy⟩
theorem zAP:∀ args r,cPlusB args=some r→PCall prog 184 args r:=zn fun p h=>plusB_ok p.1 p.2 h.1 h.2
noncomputable def zAU:List V→Option PR:=zu (fun p:Nat×Nat=>[.fs (nats .u64 (limbs p.1)) (limbs p.1).length,.fs (nats .u64 (limbs p.2)) (limbs p.2).length]) (fun p=>(limbs p.1).length≤1000∧(limbs p.2).length≤1000∧p.2≤p.1) fun p=>.ret (.fs (nats .u64 (limbs (p.1 - p.2))) (limbs (p.1 - p.2)).length)
theorem zvF(x y n m:Nat)(hn:n=(limbs x).length)(hm:m=(limbs y).length)(hx:(limbs x).length≤1000)(hy:(limbs y).length≤1000)(hle:y≤x):zAU [.fs (nats .u64 (limbs x)) n,.fs (nats .u64 (limbs y)) m]=some (.ret (.fs (nats .u64 (limbs (x - y))) (limbs (x - y)).length)):=by subst hn hm;exact zo (pat:=fun p:Nat×Nat=>[V.fs (nats .u64 (limbs p.1)) (limbs p.1).length,.fs (nats .u64 (limbs p.2)) (limbs p.2).length]) (fun _ _ h=>zkc h) (x,y) ⟨hx,hy,hle⟩
theorem zvE:∀ args r,zAU args=some r→PCall prog 186 args r:=zn fun p h=>zyi p.1 p.2 h.1 h.2.1 h.2.2
attribute [go_sem] cText_eq zvO zAQ zvF
def limV(n:Nat):V:=if 1000<(dec n).length then .tup [.str [],.int .i64 2]else .tup [.str (dec n),.int .i64 0]
theorem zt2(hT:ziB)(n:Nat)(hn:(limbs n).length≤100000):PCall prog 152 [.fs (nats .u64 (limbs n)) (limbs n).length] (.ret (limV n)):=by
 refine PCall.wD (rs:=[.tmp 2,.tmp 3]) [0,2,3,4,9] [] mixed (zf (zg8 hT) zh) (zg) call152 func152 rfl ntmps152 rfl ?_;simp (disch:=first|exact Zq|fail) only [go_sem];refine AXc.introP (fun h1=>?_) (fun h1=>?_)
 ·have:1000<(dec n).length:=by omega
  simp only [go_sem,limV,this]
 ·have:¬1000<(dec n).length:=by omega
  simp only [go_sem,limV,this]
noncomputable def zsg:List V→Option PR:=zu (fun n:Nat=>[.fs (nats .u64 (limbs n)) (limbs n).length]) (fun n=>(limbs n).length≤100000) fun n=>.ret (limV n)
theorem zqp(n m:Nat)(hm:m=(limbs n).length)(h:(limbs n).length≤100000):zsg [.fs (nats .u64 (limbs n)) m]=some (.ret (limV n)):=by subst hm;exact zo (pat:=fun n:Nat=>[V.fs (nats .u64 (limbs n)) (limbs n).length]) (fun x y h=>by simp at h;exact zck (zax h.1)) n h
theorem ziu(hT:ziB):∀ args r,zsg args=some r→PCall prog 152 args r:=zn (zt2 hT)
attribute [go_sem] zqp
theorem zW {a:List UInt8}(h:zD a=true):a.all zaV=true:=(validN_iff.1 h).2
theorem zL {a:List UInt8}(h:zD a=true):a.length≤1000:=(validN_iff.1 h).1.2
def errV(e:Int):V:=.tup [.str [],.int .i64 e]
def addV(a b:List UInt8):V:=if zD a=true∧zD b=true then limV (valD a+valD b)else errV 1
theorem zg4(n:Nat):∃ s e,limV n=.tup [.str s,.int .i64 e]:=by unfold limV;split<;>exact⟨_,_,rfl⟩
theorem zyf(hT:ziB)(a b:List UInt8):PCall prog 156 [.str a,.str b] (.ret (addV a b)):=by
 refine PCall.wD (rs:=[.tmp 4,.tmp 5]) [0,1,4,5,13] [] mixed (zf zcM (zf zcA (zf zAP (zf (ziu hT) zh)))) (zg) call156 func156 rfl ntmps156 rfl ?_;by_cases ha:zD a=true
 ·by_cases hb:zD b=true
  ·have da:=zW ha;have la:=zL ha;have db:=zW hb;have lb:=zL hb;have ba:=zbK da la;have bb:=zbK db lb;have bs:=zm0 ba bb;obtain⟨s,e,hse⟩:=zg4 (valD a+valD b);simp (disch:=first|exact Zq|fail) only [go_sem,addV,ha,hb,hse]
  ·simp only [go_sem,addV,ha,hb,errV]
 ·simp only [go_sem,addV,ha,errV]
theorem zmp {k:IntKind}{l:List Nat}{n d:Nat}{v:Int}(h:v=(d:Nat)):(nats k l).set n (.int k v)=nats k (l.set n d):=by rw [h,zkt]
theorem zlt(k:IntKind)(n:Nat):ints k (List.replicate n 0)=nats k (List.replicate n 0):=by simp [ints,nats]
def mulV(a b:List UInt8):V:=if zD a=true∧zD b=true then limV (valD a*valD b)else errV 1
theorem zyb(hT:ziB)(a b:List UInt8):PCall prog 115 [.str a,.str b] (.ret (mulV a b)):=by
 have hΓ:=zf zcM (zf zcA (zf zcg (zf (ziu hT) zh)));refine PCall.wD (rs:=[.tmp 4,.tmp 5]) [0,1,4,5,6,7,8,9,10,11,12,20,33,34,35,39,40,41,54] [] mixed (hΓ) (zg) call115 func115 rfl ntmps115 rfl ?_;by_cases ha:zD a=true
 case neg=>simp only [go_sem,mulV,ha,errV]
 by_cases hb:zD b=true
 case neg=>simp only [go_sem,mulV,ha,hb,errV]
 have da:=zW ha;have la:=zL ha;have db:=zW hb;have lb:=zL hb;have ba:=zbK da la;have bb:=zbK db lb;have bm:=zmZ ba bb;obtain⟨s,e,hse⟩:=zg4 (valD a*valD b);have hres:mulV a b=.tup [.str s,.int .i64 e]:=by unfold mulV;rw [Yf ⟨ha,hb⟩,hse]
 rw [hres];have ox:=zF (valD a);have oy:=zF (valD b);have hfin:∀ l,mulOut (limbs (valD a)) (limbs (valD b)) (limbs (valD a)).length l→zav l=limbs (valD a*valD b):=fun l h=>by rw [zri h,zC,zC]
 simp (disch:=first|exact Zq|fail) only [go_sem,ha,hb];generalize limbs (valD a)=x at*;generalize limbs (valD b)=y at*;simp (disch:=first|exact Zq|fail) only [go_sem,zke,zlt];refine⟨by omega,?_⟩;refine AXs.loop mixed (hΓ) (zg) (fun(p:Nat×List Nat)=>[(6,.fs (nats .u64 x) x.length),(7,.fs (nats .u64 y) y.length),(8,.sl 0 0 (x.length+y.length+1) 1 (some (x.length+y.length+1))),(33,.int .i64 x.length),(34,.int .i64 p.1)]) (fun p=>⟨[(0,.cells (nats .u64 p.2))],1⟩)
  (fun p=>p.1≤x.length∧mulOut x y p.1 p.2) (fun p=>x.length - p.1) (0,List.replicate (x.length+y.length+1) 0) (by kernel_rfl) ⟨Yk _,mul_start x y⟩ (Sub.of0 [] rfl rfl ?_ ?_) ?_
 ·simp only [go_sem]
 ·simp only [go_sem]
 rintro⟨i,l0⟩ ⟨hi,ho⟩;dsimp only at hi ho ⊢;simp (disch:=first|exact Zq|fail) only [go_sem];refine AXc.introP (fun h1=>?_) (fun h1=>?_)
 ·have hix:i<x.length:=by omega
  simp (disch:=first|exact Zq|fail) only [go_sem];refine AXs.loop mixed (hΓ) (zg) (fun(p:Nat×List Nat×Nat)=>[(6,.fs (nats .u64 x) x.length),(7,.fs (nats .u64 y) y.length),(8,.sl 0 0 (x.length+y.length+1) 1 (some (x.length+y.length+1))),(9,.int .i64 i),(10,.int .u64 p.2.2),(33,.int .i64 x.length),(34,.int .i64 i),(39,.int .i64 (y.length+1:Int)),(40,.int .i64 p.1)]) (fun p=>⟨[(0,.cells (nats .u64 p.2.1))],1⟩)
   (fun p=>p.1≤y.length+1∧mulInv x y i (valL l0) p.1 p.2.1 p.2.2) (fun p=>y.length+1 - p.1) (0,l0,0) (by kernel_rfl) ⟨Yk _,mul_row ho⟩ (Sub.of0 [] rfl rfl ?_ ?_) ?_
  ·simp only [go_sem]
  ·simp only [go_sem]
  rintro⟨k,l,c⟩ ⟨hk,hv⟩;dsimp only at hk hv ⊢;have hl:=hv.1;have hkl:=hv.2.1;have hcl:=hv.2.2.1;simp (disch:=first|exact Zq|fail) only [go_sem];refine AXc.introP (fun h2=>?_) (fun h2=>?_)
  ·have hky:k≤y.length:=by omega
   have hst:=mul_step ox oy hix hky hv;have hpl:=mulP_lt (i:=i) (k:=k) ox oy hkl hcl;have hgl:=getD_lt hkl (i+k);have hm:(x.getD i 0:Int)*(y.getD k 0:Int)=((x.getD i 0*y.getD k 0:Nat):Int):=by simp
   have hp1:mulP x y i k l c=l.getD (i+k) 0+c+x.getD i 0*y.getD k 0:=rfl;have hyz:¬(k:Int)<y.length→x.getD i 0*y.getD k 0=0:=fun h=>by rw [za6 y _ _ (by omega)];simp
   generalize x.getD i 0*y.getD k 0=q at*;by_cases h3:(k:Int)<y.length
   ·simp (disch:=first|exact Zq|fail) only [go_sem,h3,hm];repeat refine And.intro (by omega) ?_
    refine zi (k+1,l.set (i+k) (mulP x y i k l c % 1000000000),mulP x y i k l c / 1000000000) ⟨by omega,hst⟩ (by dsimp only;omega) (Sub.of0 [] rfl rfl ?_ ?_)
    ·simp only [go_sem];rw [hp1];simp only [V.int.injEq,Yan];omega
    ·simp only [go_sem];rw [zmp (d:=mulP x y i k l c % 1000000000) (by rw [hp1];omega)]
   ·have hq0:=hyz h3;subst hq0;simp (disch:=first|exact Zq|fail) only [go_sem,h3];repeat refine And.intro (by omega) ?_
    refine zi (k+1,l.set (i+k) (mulP x y i k l c % 1000000000),mulP x y i k l c / 1000000000) ⟨by omega,hst⟩ (by dsimp only;omega) (Sub.of0 [] rfl rfl ?_ ?_)
    ·simp only [go_sem];rw [hp1];simp only [V.int.injEq,Yan];omega
    ·simp only [go_sem];rw [zmp (d:=mulP x y i k l c % 1000000000) (by rw [hp1];omega)]
  ·have hke:k=y.length+1:=by omega
   subst hke;have hen:=mul_end ho hv;simp (disch:=first|exact Zq|fail) only [go_sem];refine AXa.go mixed (hΓ) (zg) (by kernel_rfl) ?_;simp (disch:=first|exact Zq|fail) only [go_sem];refine zi (i+1,l) ⟨by omega,hen⟩ (by dsimp only;omega) (Sub.of0 [] rfl rfl ?_ ?_)
   ·simp only [go_sem];simp
   ·simp only [go_sem]
 ·have hie:i=x.length:=by omega
  subst hie;have hll:=ho.1;have hft:=hfin l0 ho;simp only [go_sem];refine AXa.fz [0] rfl rfl rfl (env':=[(8,.fs (nats .u64 l0) l0.length)]) (bs':=[]) (n':=1) ?_ ?_ ?_
  ·simp only [go_sem];right;exact FrzF.slp (by simp) rfl (by omega) (by simp [zK];omega) (by rw [Y2,Yap,zbR, ←hll,YQ]) (zat _ _)
  ·simp only [go_sem]
  refine AXa.go mixed (hΓ) (zg) (by kernel_rfl) ?_;simp (disch:=first|exact Zq|fail) only [go_sem,hft,hse]
def subV(a b:List UInt8):V:=if zD a=true∧zD b=true then(if valD a<valD b then errV 4 else .tup [.str (dec (valD a - valD b)),.int .i64 0])else errV 1
def cmpV(a b:List UInt8):Int:=if zD a=true∧zD b=true then cmpI (valD a) (valD b)else 0
theorem zya(hT:ziB)(a b:List UInt8):PCall prog 158 [.str a,.str b] (.ret (subV a b)):=by
 refine PCall.wD (rs:=[.tmp 4,.tmp 5]) [0,1,4,5,6,7,15,23] [] mixed (zf zcM (zf zcA (zf zep (zf zvE (zf (zg8 hT) zh))))) (zg) call158 func158 rfl ntmps158 rfl ?_;by_cases ha:zD a=true
 case neg=>simp only [go_sem,subV,ha,errV]
 by_cases hb:zD b=true
 case neg=>simp only [go_sem,subV,ha,hb,errV]
 have da:=zW ha;have la:=zL ha;have db:=zW hb;have lb:=zL hb;have ba:=zbK da la;have bb:=zbK db lb;simp (disch:=first|exact Zq|fail) only [go_sem,ha,hb];refine AXc.introP (fun h1=>?_) (fun h1=>?_)
 ·have h2:valD a<valD b:=by
   rw [zbF]at h1
   split at h1
   ·assumption
   ·split at h1<;>omega
  simp (disch:=first|exact Zq|fail) only [go_sem,subV,ha,hb,h2,errV]
 ·have h2:valD b≤valD a:=by
   rw [zbF]at h1
   split at h1
   ·omega
   ·omega
  have h3:¬valD a<valD b:=by omega
  have bs:=zmY (y:=valD b) ba
  simp (disch:=first|exact Zq|fail) only [go_sem,subV,ha,hb,h3]
theorem zye(a b:List UInt8):PCall prog 157 [.str a,.str b] (.ret (.int .i64 (cmpV a b))):=by
 refine PCall.wD (rs:=[.tmp 4]) [0,1,4,12] [] mixed (zf zcM (zf zcA (zf zep zh))) (zg) call157 func157 rfl ntmps157 rfl ?_;by_cases ha:zD a=true
 case neg=>simp only [go_sem,cmpV,ha]
 by_cases hb:zD b=true
 case neg=>simp only [go_sem,cmpV,ha,hb]
 have da:=zW ha;have la:=zL ha;have db:=zW hb;have lb:=zL hb;have ba:=zbK da la;have bb:=zbK db lb;simp (disch:=first|exact Zq|fail) only [go_sem,cmpV,ha,hb]
end Go.Proofs
