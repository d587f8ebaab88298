/- The reference's natural numbers: Gcd. -/
import Derived.Test.YtfilkkmcagndlaaGreatDoorF2g
import Derived.Test.YtfilkkmcagndlaaGreatDoorAbMapS
import Derived.Laws.Externs
import Derived.Test.YtfilkkmcagndlaaGreatDoorF2b
set_option linter.all false
namespace Go.Proofs
open Go.Ab Go.Pl
theorem zae {n:Nat}(h:(dec n).length≤1000):zH (dec n)=true:=by rw [zf8];simpa using h
theorem zrq {x y:Nat}(hx:(dec x).length≤1000)(hy:(dec y).length≤1000)(h0:0<y):divV (dec x) (dec y)=.tup [.str (dec (x / y)),.str (dec (x % y)),.int .i64 0]:=by
 have:¬y=0:=by omega
 simp only [divV,zae hx,zae hy,and_self,if_true,zah,this,if_false]
noncomputable def cRDiv:List V→Option PR:=zD (fun p:List UInt8×List UInt8=>[.str p.1,.str p.2]) (fun _=>True) (fun p=>.ret (divV p.1 p.2))
theorem zrH:∀ args r,cRDiv args=some r→PCall Tryz.prog 78 args r:=zo fun p _=>rDiv_ok p.1 p.2
theorem cRDiv_eq(a b:List UInt8):cRDiv [.str a,.str b]=some (.ret (divV a b)):=zn (fun p q h=>by simp at h;exact Prod.ext h.1 h.2) (a,b) trivial
@[go_sem] theorem cRDiv_dec(x y:Nat)(hx:(dec x).length≤1000)(hy:(dec y).length≤1000)(h0:0<y):cRDiv [.str (dec x),.str (dec y)]=some (.ret (.tup [.str (dec (x / y)),.str (dec (x % y)),.int .i64 0])):=by rw [cRDiv_eq,zrq hx hy h0]
def gcdV(a b:List UInt8):V:=if zH a=true∧zH b=true then .tup [.str (dec (Nat.gcd (valD a) (valD b))),.int .i64 0]else errV 1
set_option maxHeartbeats 4000000 in
theorem rGcd_ok(a b:List UInt8):PCall Tryz.prog 72 [.str a,.str b] (.ret (gcdV a b)):=by
 have hΓ:=zf zaY (zf zrH zh);refine PCall.walk (rs:=[.tmp 4,.tmp 5]) [0,1,4,5,7,16,18] [] mixed (hΓ) (zg) call72 Tryz.func72 rfl Tryz.ntmps72 rfl (by kernel_rfl) (by simp) (by simp [push_cast]) ?_;by_cases ha:zH a=true
 case neg=>simp only [go_sem,gcdV,ha,errV]
 by_cases hb:zH b=true
 case neg=>simp only [go_sem,gcdV,ha,hb,errV]
 have la:=zS ha;have lb:=zS hb;have hres:gcdV a b=.tup [.str (dec (Nat.gcd (valD a) (valD b))),.int .i64 0]:=by simp only [gcdV,ha,hb,and_self,if_true]
 rw [hres];simp only [go_sem,ha,hb];have ea:=zas ha;have eb:=zas hb;generalize valD a=A at*;generalize valD b=B at*;subst ea eb;refine AXs.loop mixed (hΓ) (zg) (fun p:Nat×Nat=>[(0,.str (dec p.1)),(1,.str (dec p.2))]) (fun _=>⟨[],0⟩) (fun p=>(dec p.1).length≤1000∧(dec p.2).length≤1000∧Nat.gcd p.1 p.2=Nat.gcd A B) (fun p=>p.2) (A,B) (by kernel_rfl) ⟨la,lb,rfl⟩ (Sub.of0 [] rfl rfl ?_ ?_) ?_
 ·simp only [go_sem]
 ·simp only [go_sem]
 rintro⟨x,y⟩ ⟨h1,h2,h3⟩;dsimp only at h1 h2 h3 ⊢;have hz:decide (dec y=[48])=decide (y=0):=by simp only [dec_is_zero]
 simp (disch:=first|assumption|(push_cast<;>omega)|omega) only [go_sem];rw [hz];refine AXc.introN (fun h4=>?_) (fun h4=>?_)
 ·have hy:0<y:=by omega
  have hm:=Nat.mod_lt x hy;simp (disch:=first|assumption|(push_cast<;>omega)|omega) only [go_sem];refine zk (y,x % y) ⟨h2,Nat.le_trans (zav (Nat.le_of_lt hm)) h2,?_⟩ hm (Sub.of0 [] rfl rfl ?_ ?_)
  ·rw [←h3,Nat.gcd_comm x y,Nat.gcd_rec y x,Nat.gcd_comm]
  ·simp only [go_sem]
  ·simp only [go_sem]
 ·simp only [go_sem];refine AXa.go mixed (hΓ) (zg) (by kernel_rfl) ?_;simp only [go_sem];rw [←h3,h4,Nat.gcd_zero_right]
theorem gcdV_dec {x y:Nat}(hx:(dec x).length≤1000)(hy:(dec y).length≤1000):gcdV (dec x) (dec y)=.tup [.str (dec (Nat.gcd x y)),.int .i64 0]:=by simp only [gcdV,zae hx,zae hy,and_self,if_true,zah]
noncomputable def cRGcd:List V→Option PR:=zD (fun p:List UInt8×List UInt8=>[.str p.1,.str p.2]) (fun _=>True) (fun p=>.ret (gcdV p.1 p.2))
theorem zrF:∀ args r,cRGcd args=some r→PCall Tryz.prog 72 args r:=zo fun p _=>rGcd_ok p.1 p.2
theorem zrG(a b:List UInt8):cRGcd [.str a,.str b]=some (.ret (gcdV a b)):=zn (fun p q h=>by simp at h;exact Prod.ext h.1 h.2) (a,b) trivial
@[go_sem] theorem cRGcd_dec(x y:Nat)(hx:(dec x).length≤1000)(hy:(dec y).length≤1000):cRGcd [.str (dec x),.str (dec y)]=some (.ret (.tup [.str (dec (Nat.gcd x y)),.int .i64 0])):=by rw [zrG,gcdV_dec hx hy]
theorem zgw {a b:List UInt8}(ha:zH a=true)(hb:zH b=true):cRGcd [.str a,.str b]=some (.ret (.tup [.str (dec (Nat.gcd (valD a) (valD b))),.int .i64 0])):=by rw [zrG,gcdV,if_pos ⟨ha,hb⟩]
theorem zaS {n:Nat}:decide (dec n=[49])=decide (n=1):=by have:dec n=[49]↔n=1:=⟨fun h=>zX (h.trans (show [49]=dec 1 from rfl)),fun h=>by rw [h];rfl⟩;simp only [this]
end Go.Proofs

namespace Go.Proofs
open Go.Ab
def ixB(s:List UInt8)(c:UInt8):Int:=match s.findIdx? (· ==c)with|some i=>i|none=> -1
theorem find_range {α:Type} [Inhabited α](l:List α)(p:α→Bool):(List.range l.length).find? (fun i=>p (l.getD i default))=l.findIdx? p:=by
 induction l with
 |nil=>rfl
 |cons a l ih=>
  rw [List.length_cons,List.range_succ_eq_map,List.find?_cons,List.findIdx?_cons];have e0:(a::l).getD 0 default=a:=rfl;rw [e0];cases h:p a with
  |true=>rfl
  |false=>simp only [Bool.false_eq_true,if_false];rw [List.find?_map, ←ih];congr 1
theorem get_bang(s:ByteArray)(i:Nat):s[i]! =s.data.toList.getD i default:=by
 by_cases h:i<s.size
 ·rw [getElem!_pos s i h];have h':i<s.data.toList.length:=h;rw [List.getD_eq_getElem?_getD,List.getElem?_eq_getElem h'];rfl
 ·rw [getElem!_neg s i h];have h':¬i<s.data.toList.length:=h;rw [List.getD_eq_getElem?_getD,List.getElem?_eq_none (by omega)];rfl
theorem zrf(s:List UInt8)(c:UInt8):PCall Tryz.prog 184 [.str s,.int .u8 (c.toNat:Int)] (.ret (.int .i64 (ixB s c))):=by
 intro g w vs _ _ hvs hpw;obtain⟨u0,h0,r0⟩:=hpw 0 _ rfl;obtain⟨u1,h1,r1⟩:=hpw 1 _ rfl;obtain⟨b,rfl,hb⟩:=r0.inv_str;obtain rfl:=r1.inv_int;have hv:vs=#[.string b,.int .u8 (c.toNat:Int)]:=by
  apply Array.ext_getElem?;intro i;match i with
  |0=>exact h0
  |1=>exact h1
  |i+2=>rw [Array.getElem?_eq_none (by simp at hvs;omega)];rfl
 subst hv;refine .inr ⟨.int .i64 (ixB s c),w,?_,fun _=>none,.int .i64 (ixB s c),fun c a e=>(by cases e),Bel.refl _ _,rfl,.int _ _⟩;rw [run_callFunc_extern (fn:=Tryz.f184) Tryz.func184 (by kernel_rfl) rfl rfl (e:=Go.Extern.BytealgIndexByte.indexByte) (by kernel_rfl)];have hI:(Go.Extern.BytealgIndexByte.indexByte #[.string b,.int .u8 (c.toNat:Int)]).run Tryz.prog w=(match (List.range b.size).find? (fun i=>b[i]! ==(c.toNat:Int).toNat.toUInt8)with|some i=>Result.ok (.int .i64 (i:Int)) w|none=>.ok (.int .i64 (-1)) w):=by
  show ((match (List.range b.size).find? (fun i=>b[i]! ==(c.toNat:Int).toNat.toUInt8)with|some i=>pure (goInt i)|none=>pure (goInt (-1)):Sem Value)).run Tryz.prog w=_;cases (List.range b.size).find? (fun i=>b[i]! ==(c.toNat:Int).toNat.toUInt8)<;>rfl
 have e1:(fun i=>b[i]! ==c)=fun i=>(fun x=>x==c) (b.data.toList.getD i default):=by funext i;rw [get_bang]
 have e2:b.size=b.data.toList.length:=rfl;have e3:((c.toNat:Int).toNat.toUInt8)=c:=by simp
 rw [hI,e3,show List.find? (fun i=>b[i]! ==c) (List.range b.size)=s.findIdx? (fun x=>x==c)from by(rw [e1,e2, ←hb];exact find_range b.data.toList (fun x=>x==c))];unfold ixB;cases s.findIdx? (fun x=>x==c)<;>rfl
end Go.Proofs

namespace Go.Pl
def zaG(a:List UInt8):Bool:=zH a&&decide (a.length≤400)
def zB(a:List UInt8):Bool×List UInt8×List UInt8×Bool:=
 let neg:=decide (a.getD 0 0=45)
 let r:=if neg then a.drop 1 else a
 match r.findIdx? (· ==47)with
 |some i=>(neg,r.take i,r.drop (i+1),true)
 |none=>(neg,r,[49],false)
def zbP(neg:Bool)(n d:List UInt8)(fr:Bool):Bool:=
 zaG n&&zaG d&& !(neg&&decide (n=[48]))&& !(fr&&(decide (d=[48])||decide (d=[49])))&&decide (Nat.gcd (valD n) (valD d)=1)
def ratP(a:List UInt8):Option (Bool×Nat×Nat):=
 if zbP (zB a).1 (zB a).2.1 (zB a).2.2.1 (zB a).2.2.2=true then some ((zB a).1,valD (zB a).2.1,valD (zB a).2.2.1)else none
def ratT(neg:Bool)(n d:Nat):List UInt8:=
 (if neg=true∧n≠0 then [45]else [])++dec n++(if d=1 then []else 47::dec d)
def zdO(n:Nat):Bool:=decide (400<(dec n).length)
theorem shortN_iff {a:List UInt8}:zaG a=true↔zH a=true∧a.length≤400:=by simp [zaG]
theorem zak {a:List UInt8}(h:zH a=true):dec (valD a)=a:=(validN_iff.1 h).1.1
theorem zoN(a:List UInt8):(zB a).2.2.2=true∨(zB a).2.2.1=[49]:=by
 unfold zB;simp only;split
 ·exact .inl rfl
 ·exact .inr rfl
theorem za2 {a:List UInt8}{s:Bool}{n d:Nat}(h:ratP a=some (s,n,d)):
 0<d∧Nat.gcd n d=1∧(dec n).length≤400∧(dec d).length≤400:=by
 unfold ratP at h
 split at h
 case isFalse=>cases h
 case isTrue hk=>
  simp only [Option.some.injEq,Prod.mk.injEq]at h
  obtain⟨rfl,rfl,rfl⟩:=h
  simp only [zbP,Bool.and_eq_true,decide_eq_true_eq]at hk
  obtain⟨⟨⟨⟨h1,h2⟩,h3⟩,h4⟩,h5⟩:=hk
  have l1:=(shortN_iff.1 h1).2
  have l2:=(shortN_iff.1 h2).2
  refine⟨?_,h5,by rw [zak (shortN_iff.1 h1).1];exact l1,by rw [zak (shortN_iff.1 h2).1];exact l2⟩
  rcases Nat.eq_zero_or_pos (valD (zB a).2.2.1)with h0|h0
  ·exfalso
   rw [h0,Nat.gcd_zero_right]at h5
   have e:=zak (shortN_iff.1 h2).1
   rw [h0]at e
   have h6:(zB a).2.2.1=[48]:=by rw [←e];rfl
   rcases zoN a with h7|h7
   ·rw [h6,h7]at h4
    simp at h4
   ·rw [h6]at h7
    cases h7
  ·exact h0
def sumS(p:Bool)(a:Nat)(q:Bool)(b:Nat):Bool×Nat:=if p=q then(p,a+b)else if b≤a then(p,a - b)else(q,b - a)
end Go.Pl

namespace Go.Proofs
open Go.Ab Go.Pl
theorem ixB_some {s:List UInt8}{c:UInt8}{i:Nat}(hi:i<s.length)(h:s.getD i 0=c)(hb:∀ j,j<i→s.getD j 0≠c):s.findIdx? (· ==c)=some i:=by
 rw [List.findIdx?_eq_some_iff_getElem];have e:∀ j (hj:j<s.length),s[j]=s.getD j 0:=fun j hj=>by simp [List.getD_eq_getElem?_getD,hj]
 refine⟨hi,by rw [e i hi,h];simp,fun j hj=>?_⟩;have:=hb j hj;rw [e j (by omega)];simpa using this
theorem ixB_none {s:List UInt8}{c:UInt8}(hb:∀ j,j<s.length→s.getD j 0≠c):s.findIdx? (· ==c)=none:=by rw [List.findIdx?_eq_none_iff];intro x hx;obtain⟨j,hj,rfl⟩:=List.mem_iff_getElem.1 hx;have:=hb j hj;rw [List.getD_eq_getElem?_getD,List.getElem?_eq_getElem hj]at this;simpa using this
set_option maxHeartbeats 4000000 in
theorem zwx(s:List UInt8)(c:UInt8)(hl:s.length≤1000000000):PCall Tryz.prog 70 [.str s,.int .u8 (c.toNat:Int)] (.ret (.int .i64 (ixB s c))):=by
 refine PCall.walk (rs:=[.tmp 4]) [0,1,4,5,9,16] [] mixed (zh) (zg) call70 Tryz.func70 rfl Tryz.ntmps70 rfl (by kernel_rfl) (by simp) (by simp [push_cast]) ?_;simp only [go_sem];refine AXs.loop mixed (zh) (zg) (fun i:Nat=>[(0,.str s),(1,.int .u8 (c.toNat:Int)),(5,.int .i64 i)]) (fun _=>⟨[],0⟩) (fun i=>i≤s.length∧∀ j,j<i→s.getD j 0≠c) (fun i=>s.length - i) 0 (by kernel_rfl) ⟨Nat.zero_le _,by intro j hj;omega⟩ (Sub.of0 [] rfl rfl ?_ ?_) ?_
 ·simp only [go_sem]
 ·simp only [go_sem]
 rintro i ⟨hi,hb⟩;simp only [go_sem];refine AXc.introP (fun h1=>?_) (fun h1=>?_)
 ·have hi':i<s.length:=by omega
  simp (disch:=first|assumption|(push_cast<;>omega)|omega) only [go_sem]
  (repeat refine sdC ?_);refine AXc.introP (fun h2=>?_) (fun h2=>?_)
  ·have h3:s.getD i 0=c:=UInt8.toNat_inj.1 (by omega);simp only [go_sem,ixB,ixB_some hi' h3 hb]
  ·have h3:s.getD i 0≠c:=fun e=>h2 (by rw [e]);simp (disch:=first|assumption|(push_cast<;>omega)|omega) only [go_sem];refine zk (i+1) ⟨by omega,fun j hj=>?_⟩ (by omega) (Sub.of0 [] rfl rfl ?_ ?_)
   ·by_cases hji:j=i
    ·rw [hji];exact h3
    ·exact hb j (by omega)
   ·simp only [go_sem];simp
   ·simp only [go_sem]
 ·have hie:i=s.length:=by omega
  subst hie;simp only [go_sem];refine AXa.go mixed (zh) (zg) (by kernel_rfl) ?_;simp only [go_sem,ixB,ixB_none hb]
noncomputable def zzl:List V→Option PR:=zD (fun p:List UInt8×UInt8=>[.str p.1,.int .u8 (p.2.toNat:Int)]) (fun p=>p.1.length≤1000000000) (fun p=>.ret (.int .i64 (ixB p.1 p.2)))
theorem zuO:∀ args r,zzl args=some r→PCall Tryz.prog 70 args r:=zo fun p h=>zwx p.1 p.2 h
@[go_sem] theorem cRIndex47(s:List UInt8)(hl:s.length≤1000000000):zzl [.str s,.int .u8 47]=some (.ret (.int .i64 (ixB s 47))):=zn (pat:=fun p:List UInt8×UInt8=>[V.str p.1,.int .u8 (p.2.toNat:Int)]) (fun p q h=>by simp at h;obtain⟨h1,h2⟩:=h;have:p.2=q.2:=UInt8.toNat_inj.1 (by omega);exact Prod.ext h1 this) (s,47) hl
theorem zwv(s:List UInt8):PCall Tryz.prog 71 [.str s] (.ret (.bool (zaG s))):=by have hΓ:=zf zaY zh;refine PCall.walk (rs:=[.tmp 2]) [0,2] [] mixed (hΓ) (zg) call71 Tryz.func71 rfl Tryz.ntmps71 rfl (by kernel_rfl) (by simp) (by simp [push_cast]) ?_;simp only [go_sem];rw [Bool.eq_iff_iff,shortN_iff,Bool.and_eq_true,decide_eq_true_eq,and_comm];exact and_congr_right fun _=>by omega
noncomputable def zzi:List V→Option PR:=zD (fun a:List UInt8=>[.str a]) (fun _=>True) fun a=>.ret (.bool (zaG a))
@[go_sem] theorem cRShort_eq(a:List UInt8):zzi [.str a]=some (.ret (.bool (zaG a))):=zn (pat:=fun a:List UInt8=>[.str a]) (fun x y h=>by simpa using h) a trivial
theorem zuM:∀ args r,zzi args=some r→PCall Tryz.prog 71 args r:=zo fun a _=>zwv a
def zb0(a:List UInt8):V:=match ratP a with
 |some (s,n,d)=>.tup [.bool s,.str (dec n),.str (dec d),.bool true]
 |none=>.tup [.bool false,.str [],.str [],.bool false]
def zgE(neg:Bool)(n d:List UInt8)(fr:Bool):V:=if zbP neg n d fr=true then .tup [.bool neg,.str n,.str d,.bool true]else .tup [.bool false,.str [],.str [],.bool false]
theorem zdj(a:List UInt8):zb0 a=zgE (zB a).1 (zB a).2.1 (zB a).2.2.1 (zB a).2.2.2:=by
 unfold zb0 zgE ratP;split
 ·rename_i h;split at h
  ·rename_i hk;simp only [Option.some.injEq,Prod.mk.injEq]at h;obtain⟨rfl,rfl,rfl⟩:=h;rw [if_pos hk];simp only [zbP,Bool.and_eq_true]at hk;rw [zak (shortN_iff.1 hk.1.1.1.1).1,zak (shortN_iff.1 hk.1.1.1.2).1]
  ·cases h
 ·rename_i h;split at h
  ·cases h
  ·rename_i hk;rw [if_neg hk]
theorem zjC {a:List UInt8}{neg:Bool}{r:List UInt8}{i:Nat}(h1:decide (a.getD 0 0=45)=neg)(h2:r=if neg=true then a.drop 1 else a)(h3:r.findIdx? (· ==47)=some i):zb0 a=zgE neg (r.take i) (r.drop (i+1)) true:=by
 rw [zdj];have:zB a=(neg,r.take i,r.drop (i+1),true):=by unfold zB;simp only;rw [h1, ←h2,h3]
 rw [this]
theorem zjD {a:List UInt8}{neg:Bool}{r:List UInt8}(h1:decide (a.getD 0 0=45)=neg)(h2:r=if neg=true then a.drop 1 else a)(h3:r.findIdx? (· ==47)=none):zb0 a=zgE neg r [49] false:=by
 rw [zdj];have:zB a=(neg,r,[49],false):=by unfold zB;simp only;rw [h1, ←h2,h3]
 rw [this]
theorem zha {neg:Bool}{n d:List UInt8}{fr:Bool}(h:zbP neg n d fr=true):zgE neg n d fr=.tup [.bool neg,.str n,.str d,.bool true]:=if_pos h
theorem zbi {neg:Bool}{n d:List UInt8}{fr:Bool}(h:zbP neg n d fr=false):zgE neg n d fr=.tup [.bool false,.str [],.str [],.bool false]:=if_neg (by rw [h];decide)
theorem zei {neg:Bool}{n d:List UInt8}{fr:Bool}(h:¬zaG n=true):zbP neg n d fr=false:=by rw [Bool.not_eq_true]at h;simp [zbP,h]
theorem zkN {neg:Bool}{n d:List UInt8}{fr:Bool}(h:¬zaG d=true):zbP neg n d fr=false:=by rw [Bool.not_eq_true]at h;simp [zbP,h]
theorem zg7 {neg:Bool}{n:List UInt8}:zbP neg n [48] true=false:=by simp [zbP]
theorem zg6 {neg:Bool}{n:List UInt8}:zbP neg n [49] true=false:=by simp [zbP]
theorem zg5 {neg:Bool}{d:List UInt8}(h:zaG d=true)(h1:d≠[49]):zbP neg [48] d true=false:=by
 have hv:=zak (shortN_iff.1 h).1;have:Nat.gcd (valD [48]) (valD d)≠1:=by show Nat.gcd 0 (valD d)≠1;rw [Nat.gcd_zero_left];intro e;rw [e]at hv;exact h1 hv.symm
 simp [zbP,this]
theorem zej {neg:Bool}{n d:List UInt8}(h1:zaG n=true)(h2:zaG d=true)(h3:n≠[48])(h4:d≠[48])(h5:d≠[49]):zbP neg n d true=decide (Nat.gcd (valD n) (valD d)=1):=by simp [zbP,h1,h2,h3,h4,h5]
theorem s48:zaG [48]=true:=by decide
theorem s49:zaG [49]=true:=by decide
theorem ze2 {neg:Bool}{n:List UInt8}(h1:zaG n=true):zbP neg n [49] false= !(neg&&decide (n=[48])):=by
 have:Nat.gcd (valD n) (valD [49])=1:=by show Nat.gcd (valD n) 1=1;rw [Nat.gcd_one_right]
 simp only [zbP,h1,s49,this,Bool.and_self,Bool.true_and,Bool.false_and,Bool.not_false,Bool.and_true,decide_true]
theorem zwJ(neg:Bool):zgE neg [48] [49] false=if neg=true then .tup [.bool false,.str [],.str [],.bool false]else .tup [.bool neg,.str [48],.str [49],.bool true]:=by unfold zgE;rw [ze2 s48];cases neg<;>rfl
set_option maxHeartbeats 4000000 in
set_option maxRecDepth 100000 in
theorem zww(a:List UInt8)(hl:a.length≤1000000000):PCall Tryz.prog 42 [.str a] (.ret (zb0 a)):=by
 have hΓ:=zf zuO (zf zuM (zf zrF zh));refine PCall.walk (rs:=[.tmp 2,.tmp 3,.tmp 4,.tmp 5]) [0,2,3,4,5,6,7,8,9,10,21,27,65,77] [] mixed (hΓ) (zg) call42 Tryz.func42 rfl Tryz.ntmps42 rfl (by kernel_rfl) (by simp) (by simp [push_cast]) ?_;simp (disch:=first|assumption|(push_cast<;>omega)|omega) only [go_sem];refine⟨fun h=>⟨h,by simpa using h⟩,?_⟩;have hbn:(decide (0<(a.length:Int))&&decide (((a.getD 0 0).toNat:Int)=45))=decide (a.getD 0 0=45):=by
  rw [Bool.eq_iff_iff];simp only [Bool.and_eq_true,decide_eq_true_eq];constructor
  ·rintro⟨_,h2⟩;exact UInt8.toNat_inj.1 (by have:(45:UInt8).toNat=45:=rfl;omega)
  ·intro h;refine⟨?_,by rw [h];rfl⟩;rcases a with _|⟨c,a⟩
   ·cases h
   ·simp
 rw [hbn];by_cases hneg:a.getD 0 0=45
 ·have hq:=decide_eq_true hneg;rw [hq];have hr:(a.drop 1).length≤1000000000:=by first|exact hl|(simp;omega)
  have hne:0<a.length∨true=false:=by
   rcases a with _|⟨c,a⟩
   ·first|(exact .inr rfl)|cases hneg
   ·simp
  have p1:=fun i=>zjC (r:=a.drop 1) (i:=i) hq rfl;have p2:=zjD (r:=a.drop 1) hq rfl;simp (disch:=first|assumption|(push_cast<;>omega)|omega) only [go_sem,List.take_length];try refine⟨⟨by simp at hne;omega,Int.le_refl _⟩,?_⟩
  generalize a.drop 1=r at*;cases hf:r.findIdx? (· ==47)with
  |some i=>
   rw [p1 i hf];have hx:ixB r 47=(i:Int):=by unfold ixB;rw [hf]
   have hi:i<r.length:=by rw [List.findIdx?_eq_some_iff_getElem]at hf;exact hf.1
   have h0:decide (0≤(i:Int))=true:=by simp
   rw [hx,h0];simp (disch:=first|assumption|(push_cast<;>omega)|omega) only [go_sem,List.take_length];refine⟨⟨by omega,by omega,Int.le_refl _⟩,⟨by omega,by omega⟩,fun h=>⟨h,fun h'=>by simp only [h,h'];rfl⟩,fun h=>⟨h,fun h'=>by simp only [h,h'];rfl⟩,?_⟩;generalize r.take i=n;generalize r.drop (i+1)=d;by_cases h1:zaG n=true
   case neg=>
    rw [zbi (zei h1)]
    simp only [go_sem,h1]
   by_cases h2:zaG d=true
   case neg=>
    rw [zbi (zkN h2)]
    simp only [go_sem,h1,h2]
   by_cases h4:d=[48]
   ·rw [h4,zbi zg7];simp only [go_sem,h1,s48]
   by_cases h5:d=[49]
   ·rw [h5,zbi zg6];simp only [go_sem,h1,s49,h0,Bool.or_true]
   by_cases h3:n=[48]
   ·rw [h3,zbi (zg5 h2 h5)];simp only [go_sem,s48,h2,h4,h5,h0,Bool.or_true]
   simp only [go_sem,h1,h2,h3,h4,h5,zgw (shortN_iff.1 h1).1 (shortN_iff.1 h2).1,zaS];refine AXc.introN (fun h6=>?_) (fun h6=>?_)
   ·rw [zbi (by rw [zej h1 h2 h3 h4 h5];simpa using h6)];simp only [go_sem]
   ·rw [zha (by rw [zej h1 h2 h3 h4 h5];simpa using h6)];simp only [go_sem]
  |none=>
   rw [p2 hf];have hx:ixB r 47= -1:=by unfold ixB;rw [hf]
   rw [hx];have z49:decide (([49]:List UInt8)=[48])=false:=by decide
   by_cases h1:zaG r=true
   case neg=>
    rw [zbi (zei h1)]
    simp only [go_sem,h1,s49,z49]
   by_cases h2:r=[48]
   ·rw [h2,zwJ];simp only [go_sem,s48,s49,z49,zgw (shortN_iff.1 s48).1 (shortN_iff.1 s49).1,if_true,Bool.false_eq_true,if_false]
   ·rw [zha (by rw [ze2 h1];simp [h2])];simp only [go_sem,h1,s49,z49,h2,zgw (shortN_iff.1 h1).1 (shortN_iff.1 s49).1]
 ·have hq:=decide_eq_false hneg;rw [hq];have hr:(a).length≤1000000000:=by first|exact hl|(simp;omega)
  have hne:0<a.length∨false=false:=by
   rcases a with _|⟨c,a⟩
   ·first|(exact .inr rfl)|cases hneg
   ·simp
  have p1:=fun i=>zjC (r:=a) (i:=i) hq rfl;have p2:=zjD (r:=a) hq rfl;simp (disch:=first|assumption|(push_cast<;>omega)|omega) only [go_sem,List.take_length];try refine⟨⟨by simp at hne;omega,Int.le_refl _⟩,?_⟩
  generalize a=r at*;cases hf:r.findIdx? (· ==47)with
  |some i=>
   rw [p1 i hf];have hx:ixB r 47=(i:Int):=by unfold ixB;rw [hf]
   have hi:i<r.length:=by rw [List.findIdx?_eq_some_iff_getElem]at hf;exact hf.1
   have h0:decide (0≤(i:Int))=true:=by simp
   rw [hx,h0];simp (disch:=first|assumption|(push_cast<;>omega)|omega) only [go_sem,List.take_length];refine⟨⟨by omega,by omega,Int.le_refl _⟩,⟨by omega,by omega⟩,fun h=>⟨h,fun h'=>by simp only [h,h'];rfl⟩,fun h=>⟨h,fun h'=>by simp only [h,h'];rfl⟩,?_⟩;generalize r.take i=n;generalize r.drop (i+1)=d;by_cases h1:zaG n=true
   case neg=>
    rw [zbi (zei h1)]
    simp only [go_sem,h1]
   by_cases h2:zaG d=true
   case neg=>
    rw [zbi (zkN h2)]
    simp only [go_sem,h1,h2]
   by_cases h4:d=[48]
   ·rw [h4,zbi zg7];simp only [go_sem,h1,s48]
   by_cases h5:d=[49]
   ·rw [h5,zbi zg6];simp only [go_sem,h1,s49,h0,Bool.or_true]
   by_cases h3:n=[48]
   ·rw [h3,zbi (zg5 h2 h5)];simp only [go_sem,s48,h2,h4,h5,h0,Bool.or_true]
   simp only [go_sem,h1,h2,h3,h4,h5,zgw (shortN_iff.1 h1).1 (shortN_iff.1 h2).1,zaS];refine AXc.introN (fun h6=>?_) (fun h6=>?_)
   ·rw [zbi (by rw [zej h1 h2 h3 h4 h5];simpa using h6)];simp only [go_sem]
   ·rw [zha (by rw [zej h1 h2 h3 h4 h5];simpa using h6)];simp only [go_sem]
  |none=>
   rw [p2 hf];have hx:ixB r 47= -1:=by unfold ixB;rw [hf]
   rw [hx];have z49:decide (([49]:List UInt8)=[48])=false:=by decide
   by_cases h1:zaG r=true
   case neg=>
    rw [zbi (zei h1)]
    simp only [go_sem,h1,s49,z49]
   by_cases h2:r=[48]
   ·rw [h2,zwJ];simp only [go_sem,s48,s49,z49,zgw (shortN_iff.1 s48).1 (shortN_iff.1 s49).1,if_true,Bool.false_eq_true,if_false]
   ·rw [zha (by rw [ze2 h1];simp [h2])];simp only [go_sem,h1,s49,z49,h2,zgw (shortN_iff.1 h1).1 (shortN_iff.1 s49).1]
end Go.Proofs
