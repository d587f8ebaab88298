/- The reference's natural numbers: Gcd. -/
import Derived.Test.YthbimeikbkjnkaaGreatDoorF2g
import Derived.Test.YthbimeikbkjnkaaGreatDoorF2b
import Derived.Test.YthbimeikbkjnkaaGreatDoorAbHeap
set_option linter.all false
namespace Go.Proofs
open Go.Ab Go.Pl
theorem zW {n:Nat}(h:(dec n).length≤1000):zB (dec n)=true:=by rw [ze1];simpa using h
theorem zpc {x y:Nat}(hx:(dec x).length≤1000)(hy:(dec y).length≤1000)(h0:0<y):divV (dec x) (dec y)=.tup [.str (dec (x / y)),.str (dec (x % y)),.int .i64 0]:=by
 have:¬y=0:=by omega
 simp only [divV,zW hx,zW hy,and_self,if_true,zX,this,if_false]
noncomputable def cRDiv:List V→Option PR:=zu (fun p:List UInt8×List UInt8=>[.str p.1,.str p.2]) (fun _=>True) (fun p=>.ret (divV p.1 p.2))
theorem zps:∀ args r,cRDiv args=some r→PCall Tryz.prog 129 args r:=zk fun p _=>rDiv_ok p.1 p.2
theorem cRDiv_eq(a b:List UInt8):cRDiv [.str a,.str b]=some (.ret (divV a b)):=zn (fun p q h=>by simp at h;exact Prod.ext h.1 h.2) (a,b) trivial
@[go_sem] theorem cRDiv_dec(x y:Nat)(hx:(dec x).length≤1000)(hy:(dec y).length≤1000)(h0:0<y):cRDiv [.str (dec x),.str (dec y)]=some (.ret (.tup [.str (dec (x / y)),.str (dec (x % y)),.int .i64 0])):=by rw [cRDiv_eq,zpc hx hy h0]
def gcdV(a b:List UInt8):V:=if zB a=true∧zB b=true then .tup [.str (dec (Nat.gcd (valD a) (valD b))),.int .i64 0]else errV 1
set_option maxHeartbeats 4000000 in
theorem rGcd_ok(a b:List UInt8):PCall Tryz.prog 85 [.str a,.str b] (.ret (gcdV a b)):=by
 have hΓ:=zf zaG (zf zps zh);refine PCall.walk (rs:=[.tmp 4,.tmp 5]) [0,1,4,5,7,16,18] [] mixed (hΓ) (zg) call85 Tryz.func85 rfl Tryz.ntmps85 rfl (by kernel_rfl) (by simp) (by simp [push_cast]) ?_;by_cases ha:zB a=true
 case neg=>simp only [go_sem,gcdV,ha,errV]
 by_cases hb:zB b=true
 case neg=>simp only [go_sem,gcdV,ha,hb,errV]
 have la:=zK ha;have lb:=zK hb;have hres:gcdV a b=.tup [.str (dec (Nat.gcd (valD a) (valD b))),.int .i64 0]:=by simp only [gcdV,ha,hb,and_self,if_true]
 rw [hres];simp only [go_sem,ha,hb];have ea:=zaf ha;have eb:=zaf hb;generalize valD a=A at*;generalize valD b=B at*;subst ea eb;refine AXs.loop mixed (hΓ) (zg) (fun p:Nat×Nat=>[(0,.str (dec p.1)),(1,.str (dec p.2))]) (fun _=>⟨[],0⟩) (fun p=>(dec p.1).length≤1000∧(dec p.2).length≤1000∧Nat.gcd p.1 p.2=Nat.gcd A B) (fun p=>p.2) (A,B) (by kernel_rfl) ⟨la,lb,rfl⟩ (Sub.of0 [] rfl rfl ?_ ?_) ?_
 ·simp only [go_sem]
 ·simp only [go_sem]
 rintro⟨x,y⟩ ⟨h1,h2,h3⟩;dsimp only at h1 h2 h3 ⊢;have hz:decide (dec y=[48])=decide (y=0):=by simp only [dec_is_zero]
 simp (disch:=first|assumption|(push_cast<;>omega)|omega) only [go_sem];rw [hz];refine AXc.introN (fun h4=>?_) (fun h4=>?_)
 ·have hy:0<y:=by omega
  have hm:=Nat.mod_lt x hy;simp (disch:=first|assumption|(push_cast<;>omega)|omega) only [go_sem];refine zo (y,x % y) ⟨h2,Nat.le_trans (zak (Nat.le_of_lt hm)) h2,?_⟩ hm (Sub.of0 [] rfl rfl ?_ ?_)
  ·rw [←h3,Nat.gcd_comm x y,Nat.gcd_rec y x,Nat.gcd_comm]
  ·simp only [go_sem]
  ·simp only [go_sem]
 ·simp only [go_sem];refine AXa.go mixed (hΓ) (zg) (by kernel_rfl) ?_;simp only [go_sem];rw [←h3,h4,Nat.gcd_zero_right]
theorem gcdV_dec {x y:Nat}(hx:(dec x).length≤1000)(hy:(dec y).length≤1000):gcdV (dec x) (dec y)=.tup [.str (dec (Nat.gcd x y)),.int .i64 0]:=by simp only [gcdV,zW hx,zW hy,and_self,if_true,zX]
noncomputable def cRGcd:List V→Option PR:=zu (fun p:List UInt8×List UInt8=>[.str p.1,.str p.2]) (fun _=>True) (fun p=>.ret (gcdV p.1 p.2))
theorem zpq:∀ args r,cRGcd args=some r→PCall Tryz.prog 85 args r:=zk fun p _=>rGcd_ok p.1 p.2
theorem zpr(a b:List UInt8):cRGcd [.str a,.str b]=some (.ret (gcdV a b)):=zn (fun p q h=>by simp at h;exact Prod.ext h.1 h.2) (a,b) trivial
@[go_sem] theorem cRGcd_dec(x y:Nat)(hx:(dec x).length≤1000)(hy:(dec y).length≤1000):cRGcd [.str (dec x),.str (dec y)]=some (.ret (.tup [.str (dec (Nat.gcd x y)),.int .i64 0])):=by rw [zpr,gcdV_dec hx hy]
theorem zfq {a b:List UInt8}(ha:zB a=true)(hb:zB b=true):cRGcd [.str a,.str b]=some (.ret (.tup [.str (dec (Nat.gcd (valD a) (valD b))),.int .i64 0])):=by rw [zpr,gcdV,if_pos ⟨ha,hb⟩]
theorem zaE {n:Nat}:decide (dec n=[49])=decide (n=1):=by have:dec n=[49]↔n=1:=⟨fun h=>zO (h.trans (show [49]=dec 1 from rfl)),fun h=>by rw [h];rfl⟩;simp only [this]
end Go.Proofs

namespace Go.Pl
def zaz(a:List UInt8):Bool:=zB a&&decide (a.length≤400)
def zF(a:List UInt8):Bool×List UInt8×List UInt8×Bool:=
 let neg:=decide (a.getD 0 0=45)
 let r:=if neg then a.drop 1 else a
 match r.findIdx? (· ==47)with
 |some i=>(neg,r.take i,r.drop (i+1),true)
 |none=>(neg,r,[49],false)
def zbL(neg:Bool)(n d:List UInt8)(fr:Bool):Bool:=
 zaz n&&zaz d&& !(neg&&decide (n=[48]))&& !(fr&&(decide (d=[48])||decide (d=[49])))&&decide (Nat.gcd (valD n) (valD d)=1)
def ratP(a:List UInt8):Option (Bool×Nat×Nat):=
 if zbL (zF a).1 (zF a).2.1 (zF a).2.2.1 (zF a).2.2.2=true then some ((zF a).1,valD (zF a).2.1,valD (zF a).2.2.1)else none
def ratT(neg:Bool)(n d:Nat):List UInt8:=
 (if neg=true∧n≠0 then [45]else [])++dec n++(if d=1 then []else 47::dec d)
def zc9(n:Nat):Bool:=decide (400<(dec n).length)
theorem shortN_iff {a:List UInt8}:zaz a=true↔zB a=true∧a.length≤400:=by simp [zaz]
theorem zat {a:List UInt8}(h:zB a=true):dec (valD a)=a:=(validN_iff.1 h).1.1
theorem zmX(a:List UInt8):(zF a).2.2.2=true∨(zF a).2.2.1=[49]:=by
 unfold zF;simp only;split
 ·exact .inl rfl
 ·exact .inr rfl
theorem zcf {a:List UInt8}{s:Bool}{n d:Nat}(h:ratP a=some (s,n,d)):
 0<d∧Nat.gcd n d=1∧(dec n).length≤400∧(dec d).length≤400:=by
 unfold ratP at h
 split at h
 case isFalse=>cases h
 case isTrue hk=>
  simp only [Option.some.injEq,Prod.mk.injEq]at h
  obtain⟨rfl,rfl,rfl⟩:=h
  simp only [zbL,Bool.and_eq_true,decide_eq_true_eq]at hk
  obtain⟨⟨⟨⟨h1,h2⟩,h3⟩,h4⟩,h5⟩:=hk
  have l1:=(shortN_iff.1 h1).2
  have l2:=(shortN_iff.1 h2).2
  refine⟨?_,h5,by rw [zat (shortN_iff.1 h1).1];exact l1,by rw [zat (shortN_iff.1 h2).1];exact l2⟩
  rcases Nat.eq_zero_or_pos (valD (zF a).2.2.1)with h0|h0
  ·exfalso
   rw [h0,Nat.gcd_zero_right]at h5
   have e:=zat (shortN_iff.1 h2).1
   rw [h0]at e
   have h6:(zF a).2.2.1=[48]:=by rw [←e];rfl
   rcases zmX a with h7|h7
   ·rw [h6,h7]at h4
    simp at h4
   ·rw [h6]at h7
    cases h7
  ·exact h0
def sumS(p:Bool)(a:Nat)(q:Bool)(b:Nat):Bool×Nat:=if p=q then(p,a+b)else if b≤a then(p,a - b)else(q,b - a)
end Go.Pl

namespace Go.Pl
theorem zaa {m n j k:Nat}(hm:(dec m).length≤j)(hn:(dec n).length≤k):(dec (m*n)).length≤j+k:=by have h1:=zb8 hm;have h2:=zb8 hn;have h3:=zdi m;refine zb7 ?_ (by omega);rw [Nat.pow_add];exact Nat.mul_lt_mul'' h1 h2
theorem zen {m n k:Nat}(hm:(dec m).length≤k)(hn:(dec n).length≤k):(dec (m+n)).length≤k+1:=by have h1:=zb8 hm;have h2:=zb8 hn;refine zb7 ?_ (by omega);rw [Nat.pow_succ];generalize (10:Nat) ^ k=p at*;omega
theorem zoB {p q:Bool}{a b k:Nat}(ha:(dec a).length≤k)(hb:(dec b).length≤k):(dec (sumS p a q b).2).length≤k+1:=by
 unfold sumS;split
 ·exact zen ha hb
 ·split
  ·exact Nat.le_trans (zak (Nat.sub_le ..)) (by omega)
  ·exact Nat.le_trans (zak (Nat.sub_le ..)) (by omega)
theorem zvC {m n k:Nat}(hn:0<n)(h:(dec n).length≤k):(dec (Nat.gcd m n)).length≤k:=Nat.le_trans (zak (Nat.gcd_le_right m hn)) h
theorem znI {m n k:Nat}(h:(dec m).length≤k):(dec (m / n)).length≤k:=Nat.le_trans (zak (Nat.div_le_self ..)) h
end Go.Pl

namespace Go.Proofs
open Go.Ab Go.Pl
theorem zuZ {n:Nat}(h:(dec n).length≤1000):limV n=.tup [.str (dec n),.int .i64 0]:=if_neg (by omega)
theorem zoM {x y:Nat}(hx:(dec x).length≤1000)(hy:(dec y).length≤1000)(h:(dec (x*y)).length≤1000):mulV (dec x) (dec y)=.tup [.str (dec (x*y)),.int .i64 0]:=by simp only [mulV,zW hx,zW hy,and_self,if_true,zX,zuZ h]
theorem zpG {x y:Nat}(hx:(dec x).length≤1000)(hy:(dec y).length≤1000)(h:(dec (x+y)).length≤1000):addV (dec x) (dec y)=.tup [.str (dec (x+y)),.int .i64 0]:=by simp only [addV,zW hx,zW hy,and_self,if_true,zX,zuZ h]
theorem zoC {x y:Nat}(hx:(dec x).length≤1000)(hy:(dec y).length≤1000)(h:y≤x):subV (dec x) (dec y)=.tup [.str (dec (x - y)),.int .i64 0]:=by
 have:¬x<y:=by omega
 simp only [subV,zW hx,zW hy,and_self,if_true,zX,this,if_false]
theorem zph {x y:Nat}(hx:(dec x).length≤1000)(hy:(dec y).length≤1000):cmpV (dec x) (dec y)=cmpI x y:=by simp only [cmpV,zW hx,zW hy,and_self,if_true,zX]
def mkV(neg:Bool)(n d:Nat):V:=if zc9 (n / Nat.gcd n d)=true∨zc9 (d / Nat.gcd n d)=true then errV 2 else .tup [.str (ratT neg (n / Nat.gcd n d) (d / Nat.gcd n d)),.int .i64 0]
def zbr(a b:List UInt8):Int:=match ratP a,ratP b with
 |some (p,m,d),some (q,n,f)=>if (sumS p (m*f) (!q) (n*d)).2=0 then 0 else if (sumS p (m*f) (!q) (n*d)).1=true then -1 else 1
 |_,_=>0
def zgF(a b:List UInt8):V:=match ratP a,ratP b with
 |some (p,m,d),some (q,n,f)=>mkV (sumS p (m*f) q (n*d)).1 (sumS p (m*f) q (n*d)).2 (d*f)
 |_,_=>errV 1
def zaC(a b:List UInt8):V:=match ratP a,ratP b with
 |some (p,m,d),some (q,n,f)=>mkV (!(p==q)) (m*n) (d*f)
 |_,_=>errV 1
theorem znd(neg:Bool)(n d:Nat):∃ s e,mkV neg n d=.tup [.str s,.int .i64 e]:=by unfold mkV;split<;>exact⟨_,_,rfl⟩
theorem zeh(a b:List UInt8):∃ s e,zaC a b=.tup [.str s,.int .i64 e]:=by
 unfold zaC;split
 ·exact znd ..
 ·exact⟨_,_,rfl⟩
theorem zf1 {a b:List UInt8}{p q:Bool}{m d n f:Nat}(ha:ratP a=some (p,m,d))(hb:ratP b=some (q,n,f)):zbr a b=if (sumS p (m*f) (!q) (n*d)).2=0 then 0 else if (sumS p (m*f) (!q) (n*d)).1=true then -1 else 1:=by unfold zbr;generalize ratP a=x at*;generalize ratP b=y at*;subst ha hb;rfl
theorem zt2 {a b:List UInt8}{p q:Bool}{m d n f:Nat}(ha:ratP a=some (p,m,d))(hb:ratP b=some (q,n,f)):zgF a b=mkV (sumS p (m*f) q (n*d)).1 (sumS p (m*f) q (n*d)).2 (d*f):=by unfold zgF;generalize ratP a=x at*;generalize ratP b=y at*;subst ha hb;rfl
theorem zgE {a b:List UInt8}{p q:Bool}{m d n f:Nat}(ha:ratP a=some (p,m,d))(hb:ratP b=some (q,n,f)):zaC a b=mkV (!(p==q)) (m*n) (d*f):=by unfold zaC;generalize ratP a=x at*;generalize ratP b=y at*;subst ha hb;rfl
theorem zia {a:List UInt8}(b:List UInt8)(ha:ratP a=none):zaC a b=errV 1:=by unfold zaC;generalize ratP a=x at*;subst ha;rfl
theorem zh9(a:List UInt8){b:List UInt8}(hb:ratP b=none):zaC a b=errV 1:=by unfold zaC;generalize ratP b=y at*;subst hb;cases ratP a<;>rfl
theorem zkS {a:List UInt8}(b:List UInt8)(ha:ratP a=none):zbr a b=0:=by unfold zbr;generalize ratP a=x at*;subst ha;rfl
theorem zkR(a:List UInt8){b:List UInt8}(hb:ratP b=none):zbr a b=0:=by unfold zbr;generalize ratP b=y at*;subst hb;cases ratP a<;>rfl
end Go.Proofs

namespace Go.Proofs
open Go.Ab Go.Pl
def resP:V→List UInt8×Int
 | .tup [.str s,.int .i64 e]=>(s,e)
 |_=>([],0)
theorem zje(s:List UInt8)(e:Int):resP (.tup [.str s,.int .i64 e])=(s,e):=rfl
theorem zjf(e:Int):resP (errV e)=([],e):=rfl
theorem ratT_len {neg:Bool}{n d:Nat}(hn:(dec n).length≤400)(hd:(dec d).length≤400):(ratT neg n d).length≤1000:=by unfold ratT;simp only [List.length_append];split<;>split<;>simp only [List.length_cons,List.length_nil]<;>omega
theorem mkV_len(neg:Bool)(n d:Nat):(resP (mkV neg n d)).1.length≤1000:=by
 unfold mkV;split
 ·rw [zjf];simp
 ·rename_i h;have h':¬(400<(dec (n / Nat.gcd n d)).length∨400<(dec (d / Nat.gcd n d)).length):=by simpa [zc9] using h
  exact ratT_len (by omega) (by omega)
theorem zmY(a b:List UInt8):(resP (zaC a b)).1.length≤1000:=by
 unfold zaC;split
 ·exact mkV_len ..
 ·rw [zjf];simp
end Go.Proofs

namespace Go.Ab
def zfs(f:V→V→Bool):List V→List V→Bool
 |[],[]=>true
 |a::r,b::s=>f a b&&zfs f r s
 |_,_=>false
def beqN:Nat→V→V→Bool
 |0,_,_=>false
 |n+1,x,y=>
  match x,y with
  | .bool a,.bool b=>a==b
  | .int k a,.int k' b=>decide (k=k')&&decide (a=b)
  | .str a,.str b=>decide (a=b)
  | .nilS,.nilS=>true
  | .sl b o l s c,.sl b' o' l' s' c'=>Nat.beq b b'&&Nat.beq o o'&&Nat.beq l l'&&Nat.beq s s'&&decide (c=c')
  | .fs cs n1,.fs cs' n2=>Nat.beq n1 n2&&zfs (beqN n) cs cs'
  | .nilP,.nilP=>true
  | .ptr b o,.ptr b' o'=>Nat.beq b b'&&Nat.beq o o'
  | .fp cs,.fp cs'=>zfs (beqN n) cs cs'
  | .nilM,.nilM=>true
  | .map b,.map b'=>Nat.beq b b'
  | .fn f cs,.fn f' cs'=>Nat.beq f f'&&zfs (beqN n) cs cs'
  | .bnd f cs,.bnd f' cs'=>Nat.beq f f'&&zfs (beqN n) cs cs'
  | .nilF,.nilF=>true
  | .ifc t v,.ifc t' v'=>Nat.beq t t'&&beqN n v v'
  | .nilI,.nilI=>true
  | .agg cs,.agg cs'=>zfs (beqN n) cs cs'
  | .tup cs,.tup cs'=>zfs (beqN n) cs cs'
  | .any,.any=>true
  | .opt b v,.opt b' v'=>(b==b')&&beqN n v v'
  |_,_=>false
def beqV(x y:V):Bool:=beqN 12 x y
def beqVs(l r:List V):Bool:=zfs (beqN 12) l r
theorem zn7 {f:V→V→Bool}(hf:∀ a b,f a b=true→a=b):∀ {l r:List V},zfs f l r=true→l=r
 |[],r,h=>by cases r<;>simp [zfs]at h;rfl
 |a::l,r,h=>by
  cases r with
  |nil=>simp [zfs]at h
  |cons b s=>simp [zfs]at h;rw [hf a b h.1,zn7 hf h.2]
theorem zn6:∀(n:Nat) (a b:V),beqN n a b=true→a=b
 |0,a,b,h=>by simp [beqN]at h
 |n+1,a,b,h=>by
  have ih:=zn6 n;have il:∀ {l r:List V},zfs (beqN n) l r=true→l=r:=zn7 ih;unfold beqN at h;split at h<;>(try simp only [Bool.and_eq_true,Nat.beq_eq,decide_eq_true_eq,beq_iff_eq]at h)<;>first
   |rfl
   |(rw [h];done)
   |(rw [h.1,h.2];done)
   |(rw [h.1,il h.2];done)
   |(rw [il h];done)
   |(rw [h.1,ih _ _ h.2];done)
   |(simp [h];done)
   |(cases h;done)
theorem zhk {a b:V}(h:beqV a b=true):a=b:=zn6 _ _ _ h
theorem zpC {l r:List V}(h:beqVs l r=true):l=r:=zn7 (zn6 _) h
def zsD:List (Nat×V×V)→List (Nat×V×V)→Bool
 |[],[]=>true
 |a::r,b::s=>Nat.beq a.1 b.1&&beqV a.2.1 b.2.1&&beqV a.2.2 b.2.2&&zsD r s
 |_,_=>false
theorem zpD:∀ {a b:List (Nat×V×V)},zsD a b=true→a=b
 |[],b,h=>by cases b<;>simp [zsD]at h;rfl
 |(n,x,y)::r,b,h=>by
  cases b with
  |nil=>simp [zsD]at h
  |cons q s=>obtain⟨m,x',y'⟩:=q;simp [zsD]at h;rw [h.1.1.1,zhk h.1.1.2,zhk h.1.2,zpD h.2]
def beqB:Blk→Blk→Bool
 | .cells cs,.cells cs'=>beqVs cs cs'
 | .mp es c,.mp es' c'=>Nat.beq c c'&&zsD es es'
 | .it m bs l s t c,.it m' bs' l' s' t' c'=>decide (m=m'∧bs=bs'∧l=l'∧s=s'∧t=t'∧c=c')
 | .ty t cs,.ty t' cs'=>Nat.beq t t'&&beqVs cs cs'
 |_,_=>false
theorem beqB_eq {a b:Blk}(h:beqB a b=true):a=b:=by
 cases a<;>cases b<;>simp [beqB]at h
 ·rw [zpC h]
 ·rw [h.1,zpD h.2]
 ·obtain⟨h1,h2,h3,h4,h5,h6⟩:=h;rw [h1,h2,h3,h4,h5,h6]
 ·rw [h.1,zpC h.2]
def zn8:List (Nat×Blk)→List (Nat×Blk)→Bool
 |[],[]=>true
 |a::r,b::s=>Nat.beq a.1 b.1&&beqB a.2 b.2&&zn8 r s
 |_,_=>false
theorem zpE:∀ {a b:List (Nat×Blk)},zn8 a b=true→a=b
 |[],b,h=>by cases b<;>simp [zn8]at h;rfl
 |(n,x)::r,b,h=>by
  cases b with
  |nil=>simp [zn8]at h
  |cons q s=>obtain⟨m,x'⟩:=q;simp [zn8]at h;rw [h.1.1,beqB_eq h.1.2,zpE h.2]
end Go.Ab
