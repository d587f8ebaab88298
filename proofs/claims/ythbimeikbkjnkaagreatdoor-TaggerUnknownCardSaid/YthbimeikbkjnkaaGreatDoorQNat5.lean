import Derived.Test.YthbimeikbkjnkaaGreatDoorQNat3
import Derived.Test.YthbimeikbkjnkaaGreatDoorPlEach
import Derived.Test.YthbimeikbkjnkaaGreatDoorPlTen
import Derived.Test.YthbimeikbkjnkaaGreatDoorAbHeap
set_option linter.all false
namespace Go.Proofs
open Go.Ab Go.Pl
def zgO:Prop:=∀ n:Nat,(limbs n).length≤100000→PCall Tryz.prog 180 [.fs (nats .u64 (limbs n)) (limbs n).length] (.ret (.str (dec n)))
noncomputable def cText:List V→Option PR:=zG (fun n:Nat=>[.fs (nats .u64 (limbs n)) (limbs n).length]) (fun n=>(limbs n).length≤100000) fun n=>.ret (.str (dec n))
theorem cText_eq(n m:Nat)(hm:m=(limbs n).length)(h:(limbs n).length≤100000):cText [.fs (nats .u64 (limbs n)) m]=some (.ret (.str (dec n))):=by subst hm;exact zn (pat:=fun n:Nat=>[V.fs (nats .u64 (limbs n)) (limbs n).length]) (fun x y h=>by simp at h;exact zbM (zar h.1)) n h
theorem zfA(hT:zgO):∀ args r,cText args=some r→PCall Tryz.prog 180 args r:=zk hT
noncomputable def zwA:List V→Option PR:=zG (fun a:List UInt8=>[.str a]) (fun a=>a.all zci=true∧a.length≤1000) fun a=>.ret (.fs (nats .u64 (limbs (valD a))) (limbs (valD a)).length)
theorem zrU(a:List UInt8)(h1:a.all zci=true)(h2:a.length≤1000):zwA [.str a]=some (.ret (.fs (nats .u64 (limbs (valD a))) (limbs (valD a)).length)):=zn (pat:=fun a:List UInt8=>[V.str a]) (fun x y h=>by simpa using h) a ⟨h1,h2⟩
theorem zb0:∀ args r,zwA args=some r→PCall Tryz.prog 151 args r:=zk fun a h=>zwG a h.1 h.2
noncomputable def cPlusB:List V→Option PR:=zG (fun p:Nat×Nat=>[.fs (nats .u64 (limbs p.1)) (limbs p.1).length,.fs (nats .u64 (limbs p.2)) (limbs p.2).length]) (fun p=>(limbs p.1).length≤1000∧(limbs p.2).length≤1000) fun p=>.ret (.fs (nats .u64 (limbs (p.1+p.2))) (limbs (p.1+p.2)).length)
theorem zv6(x y n m:Nat)(hn:n=(limbs x).length)(hm:m=(limbs y).length)(hx:(limbs x).length≤1000)(hy:(limbs y).length≤1000):cPlusB [.fs (nats .u64 (limbs x)) n,.fs (nats .u64 (limbs y)) m]=some (.ret (.fs (nats .u64 (limbs (x+y))) (limbs (x+y)).length)):=by subst hn hm;exact zn (pat:=fun p:Nat×Nat=>[V.fs (nats .u64 (limbs p.1)) (limbs p.1).length,.fs (nats .u64 (limbs p.2)) (limbs p.2).length]) (fun _ _ h=>zif h) (x,y) ⟨hx,hy⟩
theorem zv5:∀ args r,cPlusB args=some r→PCall Tryz.prog 184 args r:=zk fun p h=>plusB_ok p.1 p.2 h.1 h.2
noncomputable def zwa:List V→Option PR:=zG (fun p:Nat×Nat=>[.fs (nats .u64 (limbs p.1)) (limbs p.1).length,.fs (nats .u64 (limbs p.2)) (limbs p.2).length]) (fun p=>(limbs p.1).length≤1000∧(limbs p.2).length≤1000∧p.2≤p.1) fun p=>.ret (.fs (nats .u64 (limbs (p.1 - p.2))) (limbs (p.1 - p.2)).length)
theorem zrN(x y n m:Nat)(hn:n=(limbs x).length)(hm:m=(limbs y).length)(hx:(limbs x).length≤1000)(hy:(limbs y).length≤1000)(hle:y≤x):zwa [.fs (nats .u64 (limbs x)) n,.fs (nats .u64 (limbs y)) m]=some (.ret (.fs (nats .u64 (limbs (x - y))) (limbs (x - y)).length)):=by subst hn hm;exact zn (pat:=fun p:Nat×Nat=>[V.fs (nats .u64 (limbs p.1)) (limbs p.1).length,.fs (nats .u64 (limbs p.2)) (limbs p.2).length]) (fun _ _ h=>zif h) (x,y) ⟨hx,hy,hle⟩
theorem zrM:∀ args r,zwa args=some r→PCall Tryz.prog 186 args r:=zk fun p h=>zt3 p.1 p.2 h.1 h.2.1 h.2.2
attribute [go_sem] cText_eq zrU zv6 zrN
def limV(n:Nat):V:=if 1000<(dec n).length then .tup [.str [],.int .i64 2]else .tup [.str (dec n),.int .i64 0]
theorem zql(hT:zgO)(n:Nat)(hn:(limbs n).length≤100000):PCall Tryz.prog 152 [.fs (nats .u64 (limbs n)) (limbs n).length] (.ret (limV n)):=by
 refine PCall.walk (rs:=[.tmp 2,.tmp 3]) [0,2,3,4,9] [] mixed (zg (zfA hT) zh) (zf) call152 Tryz.func152 rfl Tryz.ntmps152 rfl (by kernel_rfl) (by simp) (by simp [push_cast]) ?_;simp (disch:=first|assumption|(push_cast<;>omega)|omega) only [go_sem];refine AXc.introP (fun h1=>?_) (fun h1=>?_)
 ·have:1000<(dec n).length:=by omega
  simp only [go_sem,limV,this]
 ·have:¬1000<(dec n).length:=by omega
  simp only [go_sem,limV,this]
noncomputable def zoW:List V→Option PR:=zG (fun n:Nat=>[.fs (nats .u64 (limbs n)) (limbs n).length]) (fun n=>(limbs n).length≤100000) fun n=>.ret (limV n)
theorem zns(n m:Nat)(hm:m=(limbs n).length)(h:(limbs n).length≤100000):zoW [.fs (nats .u64 (limbs n)) m]=some (.ret (limV n)):=by subst hm;exact zn (pat:=fun n:Nat=>[V.fs (nats .u64 (limbs n)) (limbs n).length]) (fun x y h=>by simp at h;exact zbM (zar h.1)) n h
theorem zgH(hT:zgO):∀ args r,zoW args=some r→PCall Tryz.prog 152 args r:=zk (zql hT)
attribute [go_sem] zns
theorem zaz {a:List UInt8}(h:zN a=true):a.all zci=true:=(validN_iff.1 h).2
theorem zay {a:List UInt8}(h:zN a=true):a.length≤1000:=(validN_iff.1 h).1.2
def errV(e:Int):V:=.tup [.str [],.int .i64 e]
def addV(a b:List UInt8):V:=if zN a=true∧zN b=true then limV (valD a+valD b)else errV 1
theorem zop(n:Nat):∃ s e,limV n=.tup [.str s,.int .i64 e]:=by unfold limV;split<;>exact⟨_,_,rfl⟩
theorem ztZ(hT:zgO)(a b:List UInt8):PCall Tryz.prog 156 [.str a,.str b] (.ret (addV a b)):=by
 refine PCall.walk (rs:=[.tmp 4,.tmp 5]) [0,1,4,5,13] [] mixed (zg zcd (zg zb0 (zg zv5 (zg (zgH hT) zh)))) (zf) call156 Tryz.func156 rfl Tryz.ntmps156 rfl (by kernel_rfl) (by simp) (by simp [push_cast]) ?_;by_cases ha:zN a=true
 ·by_cases hb:zN b=true
  ·have da:=zaz ha;have la:=zay ha;have db:=zaz hb;have lb:=zay hb;have ba:=zbp da la;have bb:=zbp db lb;have bs:=zkN ba bb;obtain⟨s,e,hse⟩:=zop (valD a+valD b);simp (disch:=first|assumption|(push_cast<;>omega)|omega) only [go_sem,addV,ha,hb,hse]
  ·simp only [go_sem,addV,ha,hb,errV]
 ·simp only [go_sem,addV,ha,errV]
end Go.Proofs

namespace Go.Proofs
open Go.Ab Go.Pl
theorem zkh {k:IntKind}{l:List Nat}{n d:Nat}{v:Int}(h:v=(d:Nat)):(nats k l).set n (.int k v)=nats k (l.set n d):=by rw [h,zit]
theorem zoy(k:IntKind)(n:Nat):ints k (List.replicate n 0)=nats k (List.replicate n 0):=by simp [ints,nats]
def mulV(a b:List UInt8):V:=if zN a=true∧zN b=true then limV (valD a*valD b)else errV 1
set_option maxHeartbeats 4000000 in
theorem ztV(hT:zgO)(a b:List UInt8):PCall Tryz.prog 115 [.str a,.str b] (.ret (mulV a b)):=by
 have hΓ:=zg zcd (zg zb0 (zg zbJ (zg (zgH hT) zh)));refine PCall.walk (rs:=[.tmp 4,.tmp 5]) [0,1,4,5,6,7,8,9,10,11,12,20,33,34,35,39,40,41,54] [] mixed (hΓ) (zf) call115 Tryz.func115 rfl Tryz.ntmps115 rfl (by kernel_rfl) (by simp) (by simp [push_cast]) ?_;by_cases ha:zN a=true
 case neg=>simp only [go_sem,mulV,ha,errV]
 by_cases hb:zN b=true
 case neg=>simp only [go_sem,mulV,ha,hb,errV]
 have da:=zaz ha;have la:=zay ha;have db:=zaz hb;have lb:=zay hb;have ba:=zbp da la;have bb:=zbp db lb;have bm:=zkM ba bb;obtain⟨s,e,hse⟩:=zop (valD a*valD b);have hres:mulV a b=.tup [.str s,.int .i64 e]:=by unfold mulV;rw [if_pos ⟨ha,hb⟩,hse]
 rw [hres];have ox:=zC (valD a);have oy:=zC (valD b);have hfin:∀ l,zcC (limbs (valD a)) (limbs (valD b)) (limbs (valD a)).length l→zaf l=limbs (valD a*valD b):=fun l h=>by rw [zoi h,zB,zB]
 simp (disch:=first|assumption|(push_cast<;>omega)|omega) only [go_sem,ha,hb];generalize limbs (valD a)=x at*;generalize limbs (valD b)=y at*;simp (disch:=first|assumption|(push_cast<;>omega)|omega) only [go_sem,znY,zoy];refine⟨by omega,?_⟩;refine AXs.loop mixed (hΓ) (zf) (fun(p:Nat×List Nat)=>[(6,.fs (nats .u64 x) x.length),(7,.fs (nats .u64 y) y.length),(8,.sl 0 0 (x.length+y.length+1) 1 (some (x.length+y.length+1))),(33,.int .i64 x.length),(34,.int .i64 p.1)]) (fun p=>⟨[(0,.cells (nats .u64 p.2))],1⟩)
  (fun p=>p.1≤x.length∧zcC x y p.1 p.2) (fun p=>x.length - p.1) (0,List.replicate (x.length+y.length+1) 0) (by kernel_rfl) ⟨Nat.zero_le _,zkG x y⟩ (Sub.of0 [] rfl rfl ?_ ?_) ?_
 ·simp only [go_sem]
 ·simp only [go_sem]
 rintro⟨i,l0⟩ ⟨hi,ho⟩;dsimp only at hi ho ⊢;simp (disch:=first|assumption|(push_cast<;>omega)|omega) only [go_sem];refine AXc.introP (fun h1=>?_) (fun h1=>?_)
 ·have hix:i<x.length:=by omega
  simp (disch:=first|assumption|(push_cast<;>omega)|omega) only [go_sem];refine AXs.loop mixed (hΓ) (zf) (fun(p:Nat×List Nat×Nat)=>[(6,.fs (nats .u64 x) x.length),(7,.fs (nats .u64 y) y.length),(8,.sl 0 0 (x.length+y.length+1) 1 (some (x.length+y.length+1))),(9,.int .i64 i),(10,.int .u64 p.2.2),(33,.int .i64 x.length),(34,.int .i64 i),(39,.int .i64 (y.length+1:Int)),(40,.int .i64 p.1)]) (fun p=>⟨[(0,.cells (nats .u64 p.2.1))],1⟩)
   (fun p=>p.1≤y.length+1∧zdL x y i (valL l0) p.1 p.2.1 p.2.2) (fun p=>y.length+1 - p.1) (0,l0,0) (by kernel_rfl) ⟨Nat.zero_le _,zt0 ho⟩ (Sub.of0 [] rfl rfl ?_ ?_) ?_
  ·simp only [go_sem]
  ·simp only [go_sem]
  rintro⟨k,l,c⟩ ⟨hk,hv⟩;dsimp only at hk hv ⊢;have hl:=hv.1;have hkl:=hv.2.1;have hcl:=hv.2.2.1;simp (disch:=first|assumption|(push_cast<;>omega)|omega) only [go_sem];refine AXc.introP (fun h2=>?_) (fun h2=>?_)
  ·have hky:k≤y.length:=by omega
   have hst:=zoh ox oy hix hky hv;have hpl:=zjb (i:=i) (k:=k) ox oy hkl hcl;have hgl:=getD_lt hkl (i+k);have hm:(x.getD i 0:Int)*(y.getD k 0:Int)=((x.getD i 0*y.getD k 0:Nat):Int):=by simp
   have hp1:mulP x y i k l c=l.getD (i+k) 0+c+x.getD i 0*y.getD k 0:=rfl;have hyz:¬(k:Int)<y.length→x.getD i 0*y.getD k 0=0:=fun h=>by rw [zbd y _ _ (by omega)];simp
   generalize x.getD i 0*y.getD k 0=q at*;by_cases h3:(k:Int)<y.length
   ·simp (disch:=first|assumption|(push_cast<;>omega)|omega) only [go_sem,h3,hm];repeat refine And.intro (by omega) ?_
    refine zo (k+1,l.set (i+k) (mulP x y i k l c % 1000000000),mulP x y i k l c / 1000000000) ⟨by omega,hst⟩ (by dsimp only;omega) (Sub.of0 [] rfl rfl ?_ ?_)
    ·simp only [go_sem];rw [hp1];simp only [V.int.injEq,true_and];omega
    ·simp only [go_sem];rw [zkh (d:=mulP x y i k l c % 1000000000) (by rw [hp1];omega)]
   ·have hq0:=hyz h3;subst hq0;simp (disch:=first|assumption|(push_cast<;>omega)|omega) only [go_sem,h3];repeat refine And.intro (by omega) ?_
    refine zo (k+1,l.set (i+k) (mulP x y i k l c % 1000000000),mulP x y i k l c / 1000000000) ⟨by omega,hst⟩ (by dsimp only;omega) (Sub.of0 [] rfl rfl ?_ ?_)
    ·simp only [go_sem];rw [hp1];simp only [V.int.injEq,true_and];omega
    ·simp only [go_sem];rw [zkh (d:=mulP x y i k l c % 1000000000) (by rw [hp1];omega)]
  ·have hke:k=y.length+1:=by omega
   subst hke;have hen:=zt1 ho hv;simp (disch:=first|assumption|(push_cast<;>omega)|omega) only [go_sem];refine AXa.go mixed (hΓ) (zf) (by kernel_rfl) ?_;simp (disch:=first|assumption|(push_cast<;>omega)|omega) only [go_sem];refine zo (i+1,l) ⟨by omega,hen⟩ (by dsimp only;omega) (Sub.of0 [] rfl rfl ?_ ?_)
   ·simp only [go_sem];simp
   ·simp only [go_sem]
 ·have hie:i=x.length:=by omega
  subst hie;have hll:=ho.1;have hft:=hfin l0 ho;simp only [go_sem];refine AXa.fz [0] rfl rfl rfl (env':=[(8,.fs (nats .u64 l0) l0.length)]) (bs':=[]) (n':=1) ?_ ?_ ?_
  ·simp only [go_sem];right;exact FrzF.slp (by simp) rfl (by omega) (by simp [zbU];omega) (by rw [List.drop_zero,Nat.mul_one,zb3, ←hll,List.take_length]) (zaa _ _)
  ·simp only [go_sem]
  refine AXa.go mixed (hΓ) (zf) (by kernel_rfl) ?_;simp (disch:=first|assumption|(push_cast<;>omega)|omega) only [go_sem,hft,hse]
end Go.Proofs

namespace Go.Proofs
open Go.Ab Go.Pl
def subV(a b:List UInt8):V:=if zN a=true∧zN b=true then(if valD a<valD b then errV 4 else .tup [.str (dec (valD a - valD b)),.int .i64 0])else errV 1
def cmpV(a b:List UInt8):Int:=if zN a=true∧zN b=true then cmpI (valD a) (valD b)else 0
theorem ztU(hT:zgO)(a b:List UInt8):PCall Tryz.prog 158 [.str a,.str b] (.ret (subV a b)):=by
 refine PCall.walk (rs:=[.tmp 4,.tmp 5]) [0,1,4,5,6,7,15,23] [] mixed (zg zcd (zg zb0 (zg zds (zg zrM (zg (zfA hT) zh))))) (zf) call158 Tryz.func158 rfl Tryz.ntmps158 rfl (by kernel_rfl) (by simp) (by simp [push_cast]) ?_;by_cases ha:zN a=true
 case neg=>simp only [go_sem,subV,ha,errV]
 by_cases hb:zN b=true
 case neg=>simp only [go_sem,subV,ha,hb,errV]
 have da:=zaz ha;have la:=zay ha;have db:=zaz hb;have lb:=zay hb;have ba:=zbp da la;have bb:=zbp db lb;simp (disch:=first|assumption|(push_cast<;>omega)|omega) only [go_sem,ha,hb];refine AXc.introP (fun h1=>?_) (fun h1=>?_)
 ·have h2:valD a<valD b:=by
   rw [zbI]at h1
   split at h1
   ·assumption
   ·split at h1<;>omega
  simp (disch:=first|assumption|(push_cast<;>omega)|omega) only [go_sem,subV,ha,hb,h2,errV]
 ·have h2:valD b≤valD a:=by
   rw [zbI]at h1
   split at h1
   ·omega
   ·omega
  have h3:¬valD a<valD b:=by omega
  have bs:=zkL (y:=valD b) ba
  simp (disch:=first|assumption|(push_cast<;>omega)|omega) only [go_sem,subV,ha,hb,h3]
theorem ztY(a b:List UInt8):PCall Tryz.prog 157 [.str a,.str b] (.ret (.int .i64 (cmpV a b))):=by
 refine PCall.walk (rs:=[.tmp 4]) [0,1,4,12] [] mixed (zg zcd (zg zb0 (zg zds zh))) (zf) call157 Tryz.func157 rfl Tryz.ntmps157 rfl (by kernel_rfl) (by simp) (by simp [push_cast]) ?_;by_cases ha:zN a=true
 case neg=>simp only [go_sem,cmpV,ha]
 by_cases hb:zN b=true
 case neg=>simp only [go_sem,cmpV,ha,hb]
 have da:=zaz ha;have la:=zay ha;have db:=zaz hb;have lb:=zay hb;have ba:=zbp da la;have bb:=zbp db lb;simp (disch:=first|assumption|(push_cast<;>omega)|omega) only [go_sem,cmpV,ha,hb]
end Go.Proofs

namespace Go.Proofs
open Go.Ab Go.Pl
end Go.Proofs

namespace Go.Proofs
open Go.Ab Go.Pl
theorem zat {m n:Nat}(h:dec m=dec n):m=n:=by rw [←zaw m,h,zaw]
theorem zbA {a:List UInt8}(h:zN a=true):dec (valD a)=a:=(validN_iff.1 h).1.1
end Go.Proofs

namespace Go.Proofs
open Go.Ab Go.Pl
end Go.Proofs

namespace Go.Proofs
open Go.Ab Go.Pl
end Go.Proofs

namespace Go.Proofs
open Go.Ab Go.Pl
end Go.Proofs

namespace Go.Pl
theorem zbO {m n:Nat}(h:m≤n):(dec m).length≤(dec n).length:=Nat.le_of_not_lt fun hlt=>by have:=zne hlt;omega
theorem dec_zero:dec 0=[48]:=rfl
theorem dec_is_zero {n:Nat}:dec n=[48]↔n=0:=by
 constructor
 ·intro h;have:=congrArg valD h;rw [zaw]at this;exact this
 ·rintro rfl;rfl
end Go.Pl

namespace Go.Proofs
open Go.Ab Go.Pl
def divV(a b:List UInt8):V:=if zN a=true∧zN b=true then(if valD b=0 then .tup [.str [],.str [],.int .i64 4]else .tup [.str (dec (valD a / valD b)),.str (dec (valD a % valD b)),.int .i64 0])else .tup [.str [],.str [],.int .i64 1]
end Go.Proofs

namespace Go.Proofs
open Go.Ab Go.Pl
theorem zak {n:Nat}(h:(dec n).length≤1000):zN (dec n)=true:=by rw [zeH];simpa using h
theorem divV_dec {x y:Nat}(hx:(dec x).length≤1000)(hy:(dec y).length≤1000)(h0:0<y):divV (dec x) (dec y)=.tup [.str (dec (x / y)),.str (dec (x % y)),.int .i64 0]:=by
 have:¬y=0:=by omega
 simp only [divV,zak hx,zak hy,and_self,if_true,zaw,this,if_false]
def gcdV(a b:List UInt8):V:=if zN a=true∧zN b=true then .tup [.str (dec (Nat.gcd (valD a) (valD b))),.int .i64 0]else errV 1
theorem zbt {n:Nat}:decide (dec n=[49])=decide (n=1):=by have:dec n=[49]↔n=1:=⟨fun h=>zat (h.trans (show [49]=dec 1 from rfl)),fun h=>by rw [h];rfl⟩;simp only [this]
end Go.Proofs

namespace Go.Pl
def zaW(a:List UInt8):Bool:=zN a&&decide (a.length≤400)
def zF(a:List UInt8):Bool×List UInt8×List UInt8×Bool:=
 let neg:=decide (a.getD 0 0=45)
 let r:=if neg then a.drop 1 else a
 match r.findIdx? (· ==47)with
 |some i=>(neg,r.take i,r.drop (i+1),true)
 |none=>(neg,r,[49],false)
def zbQ(neg:Bool)(n d:List UInt8)(fr:Bool):Bool:=
 zaW n&&zaW d&& !(neg&&decide (n=[48]))&& !(fr&&(decide (d=[48])||decide (d=[49])))&&decide (Nat.gcd (valD n) (valD d)=1)
def ratP(a:List UInt8):Option (Bool×Nat×Nat):=
 if zbQ (zF a).1 (zF a).2.1 (zF a).2.2.1 (zF a).2.2.2=true then some ((zF a).1,valD (zF a).2.1,valD (zF a).2.2.1)else none
def ratT(neg:Bool)(n d:Nat):List UInt8:=
 (if neg=true∧n≠0 then [45]else [])++dec n++(if d=1 then []else 47::dec d)
def zeY(n:Nat):Bool:=decide (400<(dec n).length)
theorem shortN_iff {a:List UInt8}:zaW a=true↔zN a=true∧a.length≤400:=by simp [zaW]
theorem zaj {a:List UInt8}(h:zN a=true):dec (valD a)=a:=(validN_iff.1 h).1.1
theorem zmt(a:List UInt8):(zF a).2.2.2=true∨(zF a).2.2.1=[49]:=by
 unfold zF;simp only;split
 ·exact .inl rfl
 ·exact .inr rfl
theorem zb6 {a:List UInt8}{s:Bool}{n d:Nat}(h:ratP a=some (s,n,d)):
 0<d∧Nat.gcd n d=1∧(dec n).length≤400∧(dec d).length≤400:=by
 unfold ratP at h
 split at h
 case isFalse=>cases h
 case isTrue hk=>
  simp only [Option.some.injEq,Prod.mk.injEq]at h
  obtain⟨rfl,rfl,rfl⟩:=h
  simp only [zbQ,Bool.and_eq_true,decide_eq_true_eq]at hk
  obtain⟨⟨⟨⟨h1,h2⟩,h3⟩,h4⟩,h5⟩:=hk
  have l1:=(shortN_iff.1 h1).2
  have l2:=(shortN_iff.1 h2).2
  refine⟨?_,h5,by rw [zaj (shortN_iff.1 h1).1];exact l1,by rw [zaj (shortN_iff.1 h2).1];exact l2⟩
  rcases Nat.eq_zero_or_pos (valD (zF a).2.2.1)with h0|h0
  ·exfalso
   rw [h0,Nat.gcd_zero_right]at h5
   have e:=zaj (shortN_iff.1 h2).1
   rw [h0]at e
   have h6:(zF a).2.2.1=[48]:=by rw [←e];rfl
   rcases zmt a with h7|h7
   ·rw [h6,h7]at h4
    simp at h4
   ·rw [h6]at h7
    cases h7
  ·exact h0
def sumS(p:Bool)(a:Nat)(q:Bool)(b:Nat):Bool×Nat:=if p=q then(p,a+b)else if b≤a then(p,a - b)else(q,b - a)
end Go.Pl

namespace Go.Pl
theorem zbl {m n j k:Nat}(hm:(dec m).length≤j)(hn:(dec n).length≤k):(dec (m*n)).length≤j+k:=by have h1:=zbZ hm;have h2:=zbZ hn;have h3:=zc3 m;refine zbY ?_ (by omega);rw [Nat.pow_add];exact Nat.mul_lt_mul'' h1 h2
theorem zgF {m n k:Nat}(hm:(dec m).length≤k)(hn:(dec n).length≤k):(dec (m+n)).length≤k+1:=by have h1:=zbZ hm;have h2:=zbZ hn;refine zbY ?_ (by omega);rw [Nat.pow_succ];generalize (10:Nat) ^ k=p at*;omega
theorem sumS_len {p q:Bool}{a b k:Nat}(ha:(dec a).length≤k)(hb:(dec b).length≤k):(dec (sumS p a q b).2).length≤k+1:=by
 unfold sumS;split
 ·exact zgF ha hb
 ·split
  ·exact Nat.le_trans (zbO (Nat.sub_le ..)) (by omega)
  ·exact Nat.le_trans (zbO (Nat.sub_le ..)) (by omega)
theorem gcd_len {m n k:Nat}(hn:0<n)(h:(dec n).length≤k):(dec (Nat.gcd m n)).length≤k:=Nat.le_trans (zbO (Nat.gcd_le_right m hn)) h
theorem div_len {m n k:Nat}(h:(dec m).length≤k):(dec (m / n)).length≤k:=Nat.le_trans (zbO (Nat.div_le_self ..)) h
end Go.Pl

namespace Go.Proofs
open Go.Ab Go.Pl
theorem zui {n:Nat}(h:(dec n).length≤1000):limV n=.tup [.str (dec n),.int .i64 0]:=if_neg (by omega)
theorem mulV_dec {x y:Nat}(hx:(dec x).length≤1000)(hy:(dec y).length≤1000)(h:(dec (x*y)).length≤1000):mulV (dec x) (dec y)=.tup [.str (dec (x*y)),.int .i64 0]:=by simp only [mulV,zak hx,zak hy,and_self,if_true,zaw,zui h]
theorem addV_dec {x y:Nat}(hx:(dec x).length≤1000)(hy:(dec y).length≤1000)(h:(dec (x+y)).length≤1000):addV (dec x) (dec y)=.tup [.str (dec (x+y)),.int .i64 0]:=by simp only [addV,zak hx,zak hy,and_self,if_true,zaw,zui h]
theorem subV_dec {x y:Nat}(hx:(dec x).length≤1000)(hy:(dec y).length≤1000)(h:y≤x):subV (dec x) (dec y)=.tup [.str (dec (x - y)),.int .i64 0]:=by
 have:¬x<y:=by omega
 simp only [subV,zak hx,zak hy,and_self,if_true,zaw,this,if_false]
theorem cmpV_dec {x y:Nat}(hx:(dec x).length≤1000)(hy:(dec y).length≤1000):cmpV (dec x) (dec y)=cmpI x y:=by simp only [cmpV,zak hx,zak hy,and_self,if_true,zaw]
def mkV(neg:Bool)(n d:Nat):V:=if zeY (n / Nat.gcd n d)=true∨zeY (d / Nat.gcd n d)=true then errV 2 else .tup [.str (ratT neg (n / Nat.gcd n d) (d / Nat.gcd n d)),.int .i64 0]
def za5(a b:List UInt8):Int:=match ratP a,ratP b with
 |some (p,m,d),some (q,n,f)=>if (sumS p (m*f) (!q) (n*d)).2=0 then 0 else if (sumS p (m*f) (!q) (n*d)).1=true then -1 else 1
 |_,_=>0
def zf4(a b:List UInt8):V:=match ratP a,ratP b with
 |some (p,m,d),some (q,n,f)=>mkV (sumS p (m*f) q (n*d)).1 (sumS p (m*f) q (n*d)).2 (d*f)
 |_,_=>errV 1
def zaO(a b:List UInt8):V:=match ratP a,ratP b with
 |some (p,m,d),some (q,n,f)=>mkV (!(p==q)) (m*n) (d*f)
 |_,_=>errV 1
theorem zt2(neg:Bool)(n d:Nat):∃ s e,mkV neg n d=.tup [.str s,.int .i64 e]:=by unfold mkV;split<;>exact⟨_,_,rfl⟩
theorem zf3(a b:List UInt8):∃ s e,zaO a b=.tup [.str s,.int .i64 e]:=by
 unfold zaO;split
 ·exact zt2 ..
 ·exact⟨_,_,rfl⟩
theorem ziI {a b:List UInt8}{p q:Bool}{m d n f:Nat}(ha:ratP a=some (p,m,d))(hb:ratP b=some (q,n,f)):za5 a b=if (sumS p (m*f) (!q) (n*d)).2=0 then 0 else if (sumS p (m*f) (!q) (n*d)).1=true then -1 else 1:=by unfold za5;generalize ratP a=x at*;generalize ratP b=y at*;subst ha hb;rfl
theorem ztq {a b:List UInt8}{p q:Bool}{m d n f:Nat}(ha:ratP a=some (p,m,d))(hb:ratP b=some (q,n,f)):zf4 a b=mkV (sumS p (m*f) q (n*d)).1 (sumS p (m*f) q (n*d)).2 (d*f):=by unfold zf4;generalize ratP a=x at*;generalize ratP b=y at*;subst ha hb;rfl
theorem zks {a b:List UInt8}{p q:Bool}{m d n f:Nat}(ha:ratP a=some (p,m,d))(hb:ratP b=some (q,n,f)):zaO a b=mkV (!(p==q)) (m*n) (d*f):=by unfold zaO;generalize ratP a=x at*;generalize ratP b=y at*;subst ha hb;rfl
theorem zp3 {a:List UInt8}(b:List UInt8)(ha:ratP a=none):zaO a b=errV 1:=by unfold zaO;generalize ratP a=x at*;subst ha;rfl
theorem zp2(a:List UInt8){b:List UInt8}(hb:ratP b=none):zaO a b=errV 1:=by unfold zaO;generalize ratP b=y at*;subst hb;cases ratP a<;>rfl
theorem ztp {a:List UInt8}(b:List UInt8)(ha:ratP a=none):za5 a b=0:=by unfold za5;generalize ratP a=x at*;subst ha;rfl
theorem zto(a:List UInt8){b:List UInt8}(hb:ratP b=none):za5 a b=0:=by unfold za5;generalize ratP b=y at*;subst hb;cases ratP a<;>rfl
end Go.Proofs

namespace Go.Proofs
open Go.Ab Go.Pl
def resP:V→List UInt8×Int
 | .tup [.str s,.int .i64 e]=>(s,e)
 |_=>([],0)
theorem zn9(s:List UInt8)(e:Int):resP (.tup [.str s,.int .i64 e])=(s,e):=rfl
theorem ziD(e:Int):resP (errV e)=([],e):=rfl
theorem ratT_len {neg:Bool}{n d:Nat}(hn:(dec n).length≤400)(hd:(dec d).length≤400):(ratT neg n d).length≤1000:=by unfold ratT;simp only [List.length_append];split<;>split<;>simp only [List.length_cons,List.length_nil]<;>omega
theorem mkV_len(neg:Bool)(n d:Nat):(resP (mkV neg n d)).1.length≤1000:=by
 unfold mkV;split
 ·rw [ziD];simp
 ·rename_i h;have h':¬(400<(dec (n / Nat.gcd n d)).length∨400<(dec (d / Nat.gcd n d)).length):=by simpa [zeY] using h
  exact ratT_len (by omega) (by omega)
theorem zmu(a b:List UInt8):(resP (zaO a b)).1.length≤1000:=by
 unfold zaO;split
 ·exact mkV_len ..
 ·rw [ziD];simp
end Go.Proofs

namespace Go.Ab
def ze3(f:V→V→Bool):List V→List V→Bool
 |[],[]=>true
 |a::r,b::s=>f a b&&ze3 f r s
 |_,_=>false
def beqN:Nat→V→V→Bool
 |0,_,_=>false
 |n+1,x,y=>
  match x,y with
  | .bool a,.bool b=>a==b
  | .int k a,.int k' b=>decide (k=k')&&decide (a=b)
  | .str a,.str b=>decide (a=b)
  | .nilS,.nilS=>true
  | .sl b o l s c,.sl b' o' l' s' c'=>Nat.beq b b'&&Nat.beq o o'&&Nat.beq l l'&&Nat.beq s s'&&decide (c=c')
  | .fs cs n1,.fs cs' n2=>Nat.beq n1 n2&&ze3 (beqN n) cs cs'
  | .nilP,.nilP=>true
  | .ptr b o,.ptr b' o'=>Nat.beq b b'&&Nat.beq o o'
  | .fp cs,.fp cs'=>ze3 (beqN n) cs cs'
  | .nilM,.nilM=>true
  | .map b,.map b'=>Nat.beq b b'
  | .fn f cs,.fn f' cs'=>Nat.beq f f'&&ze3 (beqN n) cs cs'
  | .bnd f cs,.bnd f' cs'=>Nat.beq f f'&&ze3 (beqN n) cs cs'
  | .nilF,.nilF=>true
  | .ifc t v,.ifc t' v'=>Nat.beq t t'&&beqN n v v'
  | .nilI,.nilI=>true
  | .agg cs,.agg cs'=>ze3 (beqN n) cs cs'
  | .tup cs,.tup cs'=>ze3 (beqN n) cs cs'
  | .any,.any=>true
  | .opt b v,.opt b' v'=>(b==b')&&beqN n v v'
  |_,_=>false
def beqV(x y:V):Bool:=beqN 12 x y
def beqVs(l r:List V):Bool:=ze3 (beqN 12) l r
theorem znz {f:V→V→Bool}(hf:∀ a b,f a b=true→a=b):∀ {l r:List V},ze3 f l r=true→l=r
 |[],r,h=>by cases r<;>simp [ze3]at h;rfl
 |a::l,r,h=>by
  cases r with
  |nil=>simp [ze3]at h
  |cons b s=>simp [ze3]at h;rw [hf a b h.1,znz hf h.2]
theorem zny:∀(n:Nat) (a b:V),beqN n a b=true→a=b
 |0,a,b,h=>by simp [beqN]at h
 |n+1,a,b,h=>by
  have ih:=zny n;have il:∀ {l r:List V},ze3 (beqN n) l r=true→l=r:=znz ih;unfold beqN at h;split at h<;>(try simp only [Bool.and_eq_true,Nat.beq_eq,decide_eq_true_eq,beq_iff_eq]at h)<;>first
   |rfl
   |(rw [h];done)
   |(rw [h.1,h.2];done)
   |(rw [h.1,il h.2];done)
   |(rw [il h];done)
   |(rw [h.1,ih _ _ h.2];done)
   |(simp [h];done)
   |(cases h;done)
theorem zgL {a b:V}(h:beqV a b=true):a=b:=zny _ _ _ h
theorem zo5 {l r:List V}(h:beqVs l r=true):l=r:=znz (zny _) h
def zrW:List (Nat×V×V)→List (Nat×V×V)→Bool
 |[],[]=>true
 |a::r,b::s=>Nat.beq a.1 b.1&&beqV a.2.1 b.2.1&&beqV a.2.2 b.2.2&&zrW r s
 |_,_=>false
theorem zo6:∀ {a b:List (Nat×V×V)},zrW a b=true→a=b
 |[],b,h=>by cases b<;>simp [zrW]at h;rfl
 |(n,x,y)::r,b,h=>by
  cases b with
  |nil=>simp [zrW]at h
  |cons q s=>obtain⟨m,x',y'⟩:=q;simp [zrW]at h;rw [h.1.1.1,zgL h.1.1.2,zgL h.1.2,zo6 h.2]
def beqB:Blk→Blk→Bool
 | .cells cs,.cells cs'=>beqVs cs cs'
 | .mp es c,.mp es' c'=>Nat.beq c c'&&zrW es es'
 | .it m bs l s t c,.it m' bs' l' s' t' c'=>decide (m=m'∧bs=bs'∧l=l'∧s=s'∧t=t'∧c=c')
 | .ty t cs,.ty t' cs'=>Nat.beq t t'&&beqVs cs cs'
 |_,_=>false
theorem beqB_eq {a b:Blk}(h:beqB a b=true):a=b:=by
 cases a<;>cases b<;>simp [beqB]at h
 ·rw [zo5 h]
 ·rw [h.1,zo6 h.2]
 ·obtain⟨h1,h2,h3,h4,h5,h6⟩:=h;rw [h1,h2,h3,h4,h5,h6]
 ·rw [h.1,zo5 h.2]
def znA:List (Nat×Blk)→List (Nat×Blk)→Bool
 |[],[]=>true
 |a::r,b::s=>Nat.beq a.1 b.1&&beqB a.2 b.2&&znA r s
 |_,_=>false
theorem zo7:∀ {a b:List (Nat×Blk)},znA a b=true→a=b
 |[],b,h=>by cases b<;>simp [znA]at h;rfl
 |(n,x)::r,b,h=>by
  cases b with
  |nil=>simp [znA]at h
  |cons q s=>obtain⟨m,x'⟩:=q;simp [znA]at h;rw [h.1.1,beqB_eq h.1.2,zo7 h.2]
end Go.Ab
