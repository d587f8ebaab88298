/- The machine of AbEv is sound: what operations ask. -/
import Derived.Test.YtbdlfegfepggnaaGreatDoorAbEv
import Derived.LoopN
set_option linter.all false
set_option maxHeartbeats 16000000
set_option maxRecDepth 100000
noncomputable section
namespace Go.Ab
variable {P:Program}
def zn9(b:Nat):Nat.beq b b=true:=YaN▸rfl
def zoa {a b:Nat}(h:a≠b):Nat.beq a b=false:=by
 cases e:Nat.beq a b with
 |true=>exact absurd (YaS e) h
 |false=>rfl
def beqF {a b:Nat}:(Nat.beq a b=false)=(a≠b):=
 propext ⟨fun h e=>by(rw[e,zn9]at h;cases h),zoa⟩
def zfx {g:Bool}{n:Nat}{cs:ZA}(h:zpa g n cs=true):zbx g n cs:=by
 unfold zpa at h;unfold zbx;cases g with
 |true=>simp only[YaF,Yg,Yam,beqF,Ybw]at h;simpa using h
 |false=>simpa using h
def zrh {t:TypeId}{a:V}{H:Hp}(h:zxt P t a H=true):(zcr P t a H).pre:=by
 unfold zxt at h;unfold zcr;split at h
 ·rename_i h1 h2;simp only[h1,h2];exact zfx h
 ·rename_i h1 h2;simp only[h1,h2];split at h
  ·rename_i h3;simp only[h3];exact zfx h
  ·rename_i h3;simp only[h3];exact zfx h
  ·rename_i h3;simp only[h3];exact zfx h
  cases h
 cases h
def Xm {H:Hp}{q:Option XR}(h:q.isSome=true):(XR.ar H q).pre:=by
 cases q with
 |none=>cases h
 |some r=>trivial
def zxp {t:TypeId}{a x:V}{H:Hp}(h:zxq P t a x H=true):(zd2 P t a x H).pre:=by
 unfold zxq at h;unfold zd2;split at h
 ·rename_i h1;simp only[h1];split at h
  ·rename_i h3;simp only[h3];simp only[Yg,YaN,Ybw]at h;exact⟨h.1.1,h.1.2,h.2⟩
  ·rename_i h3;simp only[h3];simp only[Yg,YaN,Ybw]at h;exact⟨h.1.1,h.1.2,h.2⟩
  cases h
 cases h
def zxA {t:TypeId}{H:Hp}(h:zxB P t=true):(zeQ P t H).pre:=by
 unfold zxB at h;unfold zeQ;split at h
 ·rename_i h1;simp only[h1];exact h
 cases h
def pNil_ok {x:V}{H:Hp}(h:pNil x=true):(aNil x H).pre:=by
 unfold pNil at h;unfold aNil;split at h<;>first|trivial|cases h
def zaS {a b:Int}(h:leI a b=true):a≤b:=by simpa[leI]using h
def zm2 {a b:Int}(h:ltI a b=true):a<b:=by simpa[ltI]using h
def eqK_ok {a b:IntKind}(h:eqK a b=true):a=b:=by simpa[eqK]using h
def pBin_ok {op:BinOp}{t:TypeId}{x y:V}{H:Hp}(h:pBin P op t x y H=true):(aBin P op t x y H).pre:=by
 unfold pBin at h;split at h
 ·unfold aBin;cases op<;>simp only[Yg,Yam,Yay]at h<;>
   first|exact eqK_ok h|exact⟨eqK_ok h.1,h.2⟩|exact⟨zaS h.1,zaS h.2⟩
 ·unfold aBin;cases op<;>first|trivial|exact zaS h|cases h
 ·unfold aBin;split at h
  ·rename_i h1;simp only[h1];trivial
  ·rename_i h1;simp only[h1];trivial
  cases h
 rename_i h1 h2 h3;unfold aBin;split
 ·exact absurd rfl (h1 _ _ _ _ rfl)
 ·exact absurd rfl (h2 _ _ rfl)
 ·exact absurd rfl (h3 _ _ rfl)
 exact Xm h
def pUn_ok {op:UnOp}{x:V}{H:Hp}(h:pUn op x=true):(aUn op x H).pre:=by
 unfold pUn at h;unfold aUn;split at h<;>first|trivial|cases h
def pConv_ok {s d:TypeId}{x:V}{H:Hp}(h:pConv P s d x H=true):(zcy P s d x H).pre:=by
 unfold pConv at h;unfold zcy;split at h
 ·rename_i h1 h2;simp only[h1,h2];trivial
 ·rename_i h1 h2;simp only[h1,h2];trivial
 ·rename_i h0 h1 h2;split at h
  ·rename_i h3 h4;split
   ·rename_i h5;rw[h1]at h5;cases h5
   ·exact absurd rfl (fun e=>h2 _ e)
   ·rename_i h5 h6 h7;rw[h0]at h5;cases h5;simp only[h3,h4];split
    ·trivial
    rename_i h8;rw[h8]at h;cases h
   rename_i k1 k2 k3;first|exact(k1 _ h0 h1).elim|exact(k2 _ h0 h1).elim|exact(k3 _ h0 h1).elim
  cases h
 split<;>first|exact Xm h|(exfalso;simp_all;done)|(exfalso;simp_all;rename_i hh _;exact hh _ _ _ _ rfl rfl rfl rfl)|(exfalso;simp_all;rename_i hh;exact hh _ _ _ _ rfl rfl rfl rfl)
def zxw {t:TypeId}{x:V}{f:Nat}{H:Hp}(h:zxx P t x f=true):(zfV P t x f H).pre:=by
 unfold zxx at h;unfold zfV;split at h
 ·rename_i h1;simp only[h1];split at h
  ·rename_i h2;simp only[h2];split at h
   ·rename_i h3 h4;simp only[h3,h4];exact zfx h
   cases h
  cases h
 cases h
def zkR {t:TypeId}{x:V}{f:Nat}{H:Hp}(h:zgc P t x f=true):(zay P t x f H).pre:=by
 unfold zgc at h;unfold zay;split at h
 ·rename_i h1;simp only[h1];split at h
  ·rename_i h2;simp only[h2];split at h
   ·rename_i h3;simp only[h3];trivial
   ·rename_i h3;simp only[h3];trivial
   cases h
  cases h
 cases h
def zkQ {t:TypeId}{x i:V}{H:Hp}(h:zgb P t x i=true):(zY P t x i H).pre:=by
 unfold zgb at h;unfold zY;split at h
 ·rename_i h1;simp only[h1];split at h
  ·rename_i h2;simp only[h2];simp only[Yg,YaN]at h;exact⟨h.1.1,zaS h.1.2,zm2 h.2⟩
  ·rename_i h2;simp only[h2];simp only[Yg]at h;exact⟨zaS h.1,zm2 h.2⟩
  cases h
 ·rename_i h1;simp only[h1];split at h
  ·rename_i h2;simp only[h2];simp only[Yg]at h;exact⟨zaS h.1,zm2 h.2⟩
  ·rename_i h2;simp only[h2];simp only[Yg]at h;exact⟨zaS h.1,zm2 h.2⟩
  cases h
 cases h
def zxu {t:TypeId}{x i:V}{H:Hp}(h:zxv P t x i H=true):(zbZ P t x i H).pre:=by
 unfold zxv at h;unfold zbZ;split at h
 ·rename_i h1;simp only[h1];simp only[Yg]at h;exact⟨zaS h.1,zm2 h.2⟩
 split
 ·exfalso;simp_all
 exact Xm h
def zxr {t:TypeId}{x:V}{lo hi mx:Option V}{H:Hp}(h:zxs P t x lo hi mx H=true):(zbp P t x lo hi mx H).pre:=by
 unfold zxs at h;unfold zbp;split at h
 ·rename_i h1;simp only[h1];split at h
  ·rename_i h2 h3;simp only[h2,h3];simp only[Yg]at h;exact⟨zaS h.1.1,zaS h.1.2,zaS h.2⟩
  cases h
 ·rename_i h1;simp only[h1];split at h
  ·rename_i h2 h3 h4;simp only[h2,h3,h4];simp only[Yg,Yq]at h;exact h
  cases h
 ·rename_i h1;simp only[h1];split at h
  ·rename_i h2 h3 h4;simp only[h2,h3,h4];simp only[Yg,YaN]at h;exact⟨zaS h.1.1.1,zaS h.1.1.2,zaS h.1.2,h.2⟩
  cases h
 ·rename_i h1;simp only[h1];split at h
  ·rename_i h2 h3 h4;simp only[h2,h3,h4];simp only[Yg,YaN]at h;exact⟨h.1.1.1,zaS h.1.1.2,zaS h.1.2,zaS h.2⟩
  cases h
 ·rename_i h1;simp only[h1];split at h
  ·rename_i h2 h3 h4 h5;simp only[h2,h3,h4,h5];simp only[Yg,YaN]at h;exact⟨h.1.1.1.1,zaS h.1.1.1.2,zaS h.1.1.2,zaS h.1.2,zaS h.2⟩
  cases h
 ·rename_i h1;simp only[h1];split at h
  ·rename_i h2 h3 h4 h5;simp only[h2,h3,h4,h5];simp only[Yg,Ybw]at h;exact⟨zaS h.1.1.1,zaS h.1.1.2,zaS h.1.2,h.2⟩
  cases h
 cases h
def zpb {x:V}{i:Nat}{H:Hp}(h:zkS x i=true):(zbi x i H).pre:=by
 unfold zkS at h;unfold zbi;split at h
 ·simp only;split
  ·trivial
  rename_i h1;rw[h1]at h;cases h
 cases h
def pLen_ok {t:TypeId}{x:V}{H:Hp}(h:pLen P t x H=true):(aLen P t x H).pre:=by
 unfold pLen at h;unfold aLen;split at h;all_goals first
  |(cases h;done)
  |(rename_i h1;simp only[h1];trivial)
  |(rename_i h1
    simp only[h1]
    split at h
    ·rename_i h2;simp only[h2]
    ·cases h)
def zxy {t:TypeId}{parts:List (Nat×V)}{H:Hp}(h:zxz P t parts H=true):(zc4 P t parts H).pre:=by
 unfold zxz at h;unfold zc4;split at h
 ·rename_i h1 h2;simp only[h1,h2];split at h
  ·rename_i h3;simp only[h3];simp only[Yg]at h;split
   ·exact h.2
   rename_i h4;rw[h4]at h;cases h.1
  cases h
 split
 ·exfalso;simp_all
 exact Xm h
def ziT {t:TypeId}{len:Nat}{parts:List (Nat×V)}{H:Hp}(h:ze2 P t len parts=true):(zM P t len parts H).pre:=by
 unfold ze2 at h;unfold zM;split at h
 ·rename_i h1;simp only[h1];split at h
  ·rename_i h2 h3;simp only[h2,h3];simp only[Yg,YaN,Ybw]at h;split
   ·exact⟨h.1.1.2,h.1.2,h.2⟩
   rename_i h4;rw[h4]at h;cases h.1.1.1
  cases h
 cases h
def zkO {t:TypeId}{l c:V}{H:Hp}(h:zf9 P t l c=true):(zaF P t l c H).pre:=by
 unfold zf9 at h;unfold zaF;split at h
 ·rename_i h1;simp only[h1];split at h
  ·rename_i h2 h3;simp only[h2,h3];simp only[Yg,YaN]at h;exact⟨h.1.1.1.1.1,h.1.1.1.1.2,zaS h.1.1.1.2,zaS h.1.1.2,zaS h.1.2,zaS h.2⟩
  cases h
 cases h
def ztK {sT xT:TypeId}{s x:V}{H:Hp}(h:zpe P sT xT s x H=true):(zcR P sT xT s x H).pre:=by
 unfold zpe at h;unfold zcR;split at h;rotate_left;·cases h
 rename_i h1;simp only[h1];split at h;rotate_left;·cases h
 rename_i h2;simp only[h2];split at h;rotate_left;·rename_i h3;simp only[h3];exact Xm h
 rename_i news n R h3;simp only[h3];cases hn:Nat.beq n 0 with
 |true=>
  rw[hn]at h;rw[Yi (YaS hn)];simp only[YaF]at h;split at h<;>first|trivial|cases h
 |false=>
  rw[hn]at h;rw[Yh (beqF.mp hn)];simp only[Yb2]at h;split at h
  ·simp only[Yg,Yam,beqF,Ybw]at h;exact⟨h.1.1.1.1,h.1.1.1.2,h.1.1.2,h.1.2,h.2⟩
  ·simp only;split at h
   ·rename_i h4;simp only[h4];split at h
    ·simp only[Yg,Yam,beqF,Ybw,YaN]at h;exact⟨h.1.1.1.1.1.1,h.1.1.1.1.1.2,h.1.1.1.1.2,h.1.1.1.2,h.1.1.2,h.1.2,h.2⟩
    rename_i k;cases hk:Nat.ble (_+n) k with
    |true=>rw[hk]at h;simp only;rw[Yi (YbI hk)];simp only[YaF,Yg,Ybw,YaN]at h;exact⟨h.1.1,h.1.2,h.2⟩
    |false=>rw[hk]at h;simp only;rw[Yh (fun e=>by rw[Nat.ble_eq_true_of_le e]at hk;cases hk)];simp only[Yb2,Yg,Yam,beqF,Ybw,YaN]at h;exact⟨h.1.1.1.1.1.1,h.1.1.1.1.1.2,h.1.1.1.1.2,h.1.1.1.2,h.1.1.2,h.1.2,h.2⟩
   ·rename_i h4;simp only[h4];split at h
    ·simp only[Yg,Yam,beqF,Ybw,YaN]at h;exact⟨h.1.1.1.1.1.1.1.1,h.1.1.1.1.1.1.1.2,h.1.1.1.1.1.1.2,h.1.1.1.1.1.2,h.1.1.1.1.2,h.1.1.1.2,h.1.1.2,h.1.2,h.2⟩
    cases h
   ·rename_i h4;simp only[h4];split at h
    ·cases h
    rename_i k;cases hk:Nat.ble (_+n) k with
    |true=>rw[hk]at h;cases h
    |false=>rw[hk]at h;simp only;rw[Yh (fun e=>by rw[Nat.ble_eq_true_of_le e]at hk;cases hk)];simp only[Yb2,Yg,Yam,beqF,Ybw,YaN]at h;exact⟨h.1.1.1.1.1.1,h.1.1.1.1.1.2,h.1.1.1.1.2,h.1.1.1.2,h.1.1.2,h.1.2,h.2⟩
   cases h
  cases h
def zkP {t:TypeId}{x:V}{H:Hp}(h:zga P t=true):(zbv P t x H).pre:=by
 unfold zga at h;unfold zbv;split at h
 ·cases h
 ·rename_i h1 h2;split
  ·rename_i h3;rw[h2]at h3;cases h3;exact absurd rfl (h1 _)
  ·trivial
  rename_i h3;rw[h2]at h3;cases h3
 cases h
def ztJ {x:V}{t:TypeId}{ok:Bool}{H:Hp}(h:zpd P x t ok=true):(zdW P x t ok H).pre:=by
 unfold zpd at h;unfold zdW;split at h
 ·rename_i h1 h2;simp only[h1,h2];simp only[Yg,Yam,Yao,YaN]at h;rw[Yh (by rw[h.1];simp)];split
  ·trivial
  rename_i h3;rw[Yi (h.2.resolve_left h3)];trivial
 ·rename_i h1 h2;simp only[h1,h2];simp only[Yg,Yam]at h;rw[Yh (by rw[h.1];simp),Yi h.2];trivial
 cases h
def zpc {b:Builtin}{ts:Array TypeId}{args:ZA}{H:Hp}(h:zkT P b ts args H=true):(zcd P b ts args H).pre:=by
 unfold zkT at h;unfold zcd;split at h
 ·split at h
  ·rename_i h1;simp only[h1];exact pLen_ok h
  cases h
 ·split at h
  ·rename_i h1;simp only[h1];exact ztK h
  cases h
 ·split at h
  ·trivial
  cases h
 ·split at h
  ·trivial
  cases h
 ·split at h
  ·rename_i h1;simp only[h1];exact Xm h
  cases h
 ·split at h
  ·rename_i h1;simp only[h1];exact Xm h
  cases h
 ·split at h
  ·rename_i h1;simp only[h1];exact Xm h
  cases h
 ·exact Xm h
 ·split at h
  ·rename_i h1;simp only[h1];exact Xm h
  cases h
 cases h
end Go.Ab

namespace Go.Ab
variable {P:Program}
def zdK(v:Option V)(l r:Tr)(m:Nat):(Tr.node v l r).get m=if m=0 then v else if m%2=1 then l.get (m/2)else r.get (m/2-1):=by
 show (Bool.rec (Bool.rec (r.get (m/2-1)) (l.get (m/2)) (Nat.beq (m%2) 1)) v (Nat.beq m 0):Option V)=_;by_cases h:m=0
 ·subst h;rfl
 rw[Yh h,zoa h];show (Bool.rec (r.get (m/2-1)) (l.get (m/2)) (Nat.beq (m%2) 1):Option V)=_;by_cases h1:m%2=1
 ·rw[Yi h1,h1];rfl
 rw[Yh h1,zoa h1]
def one_succ(x:V)(k n:Nat):Tr.one x (k+1) n=if n=0 then .node (some x) .nil .nil else if n%2=1 then .node none (Tr.one x k (n/2)) .nil else .node none .nil (Tr.one x k (n/2-1)):=by
 show (Bool.rec (Bool.rec (.node none .nil (Tr.one x k (n/2-1))) (.node none (Tr.one x k (n/2)) .nil) (Nat.beq (n%2) 1)) (.node (some x) .nil .nil) (Nat.beq n 0):Tr)=_;by_cases h:n=0
 ·subst h;rfl
 rw[Yh h,zoa h];show (Bool.rec (.node none .nil (Tr.one x k (n/2-1))) (.node none (Tr.one x k (n/2)) .nil) (Nat.beq (n%2) 1):Tr)=_;by_cases h1:n%2=1
 ·rw[Yi h1,h1];rfl
 rw[Yh h1,zoa h1]
def set_node(x:V)(v:Option V)(l r:Tr)(n:Nat):(Tr.node v l r).set x n=if n=0 then .node (some x) l r else if n%2=1 then .node v (l.set x (n/2)) r else .node v l (r.set x (n/2-1)):=by
 show (Bool.rec (Bool.rec (.node v l (r.set x (n/2-1))) (.node v (l.set x (n/2)) r) (Nat.beq (n%2) 1)) (.node (some x) l r) (Nat.beq n 0):Tr)=_;by_cases h:n=0
 ·subst h;rfl
 rw[Yh h,zoa h];show (Bool.rec (.node v l (r.set x (n/2-1))) (.node v (l.set x (n/2)) r) (Nat.beq (n%2) 1):Tr)=_;by_cases h1:n%2=1
 ·rw[Yi h1,h1];rfl
 rw[Yh h1,zoa h1]
theorem get_nil(m:Nat):Tr.nil.get m=none:=rfl
theorem set_nil(x:V)(n:Nat):Tr.nil.set x n=Tr.one x 12 n:=rfl
def zpN(x:V):∀(k n m:Nat),n+1<2^k→(Tr.one x k n).get m=if m=n then some x else none
 |0,n,m,h=>by simp at h
 |k+1,n,m,h=>by
  rw[one_succ];have hp:2^(k+1)=2*2^k:=by rw[YM];omega
  split
  ·subst n;rw[zdK];by_cases hm:m=0
   ·rw[Yi hm,Yi hm]
   rw[Yh hm,Yh hm];split<;>rfl
  split
  ·rw[zdK,zpN x k (n/2) (m/2) Zo];by_cases hm:m=0
   ·rw[Yi hm,Yh Zo]
   rw[Yh hm];split
   ·by_cases e:m/2=n/2
    ·rw[Yi e,Yi Zo]
    rw[Yh e,Yh Zo]
   rw[Yh Zo];rfl
  rw[zdK,zpN x k (n/2-1) (m/2-1) Zo];by_cases hm:m=0
  ·rw[Yi hm,Yh Zo]
  rw[Yh hm];split
  ·rw[Yh Zo];rfl
  by_cases e:m/2-1=n/2-1
  ·rw[Yi e,Yi Zo]
  rw[Yh e,Yh Zo]
def zls(x:V):∀(t:Tr)(n m:Nat),n<4095→(t.set x n).get m=if m=n then some x else t.get m
 | .nil,n,m,h=>by rw[set_nil,zpN x 12 n m Zo,get_nil]
 | .node v l r,n,m,h=>by
  rw[set_node,zdK];split
  ·subst n;rw[zdK];by_cases hm:m=0
   ·rw[Yi hm,Yi hm]
   rw[Yh hm,Yh hm,Yh hm]
  split
  ·rw[zdK,zls x l (n/2) (m/2) Zo];by_cases hm:m=0
   ·rw[Yi hm,Yh Zo,Yi hm]
   rw[Yh hm,Yh hm];split
   ·by_cases e:m/2=n/2
    ·rw[Yi e,Yi Zo]
    rw[Yh e,Yh Zo]
   rw[Yh Zo]
  rw[zdK,zls x r (n/2-1) (m/2-1) Zo];by_cases hm:m=0
  ·rw[Yi hm,Yh Zo,Yi hm]
  rw[Yh hm,Yh hm];split
  ·rw[Yh Zo]
  by_cases e:m/2-1=n/2-1
  ·rw[Yi e,Yi Zo]
  rw[Yh e,Yh Zo]
def TE(t:Tr)(env:Env):Prop:=∀k,t.get k=env.lookup k
def TE.put {t:Tr}{env:Env}(h:TE t env)(v:V){d:Nat}(hd:d<4095):TE (t.set v d) ((d,v)::env):=fun k=>by
 rw[zls v t d k hd,YC];by_cases e:k=d
 ·subst e;simp
 rw[Yh e,h k];have:(k==d)=false:=by simp[e]
 rw[this]
def TE.ev {t:Tr}{env:Env}(h:TE t env):evT t=ev env:=by
 funext x;cases x<;>first|rfl|exact YaZ (fun o=>o.getD V.any) (h _)
def zcp:∀(l:List (Nat×V))(t k:Nat),(l.filter fun p=>p.1 != t).lookup k=if k=t then none else l.lookup k
 |[],t,k=>Zs
 |p::l,t,k=>by
  rw[YaT,YC];by_cases hp:p.1=t
  ·rw[Yh (by simp[hp]),zcp l t k];by_cases hk:k=t
   ·rw[Yi hk,Yi hk]
   have:(k==p.1)=false:=by simp[hp,hk]
   rw[Yh hk,Yh hk,this]
  rw[Yi (by simp[hp]),YC,zcp l t k];by_cases hk:k=p.1
  ·have:(k==p.1)=true:=by simp[hk]
   have ht:¬k=t:=Zo;rw[this];simp[ht]
  have:(k==p.1)=false:=by simp[hk]
  rw[this]
def TE.trim {t:Tr}:∀ {env:Env},TE t env→TE t (zcs (fun _=>true) env):=by
 have key:∀(env:Env)(k:Nat),(zcs (fun _=>true) env).lookup k=env.lookup k:=by
  intro env;induction env with
  |nil=>intro k;rfl
  |cons p r ih=>
   intro k;obtain⟨d,v⟩:=p;show (((d,v)::(zcs _ r).filter fun p=>p.1 != d):Env).lookup k=_;rw[YC,YC,zcp,ih];by_cases hk:k=d
   ·have:(k==d)=true:=by simp[hk]
    rw[this]
   have:(k==d)=false:=by simp[hk]
   rw[this,Yh hk]
 intro env h k;rw[key,h k]
def zqY {v u:V}(h:unopt v=some u):v.val=u∧v.cond:=by
 cases v<;>first|(cases h;exact⟨rfl,trivial⟩)|(cases h;done)|skip
 rename_i b v;cases b with
 |true=>cases h;exact⟨rfl,rfl⟩
 |false=>cases h
def zB {t:Tr}{env:Env}(hT:TE t env){x:Operand}{v:V}(h:fetch t x=some v):rho env x=v∧(ev env x).cond:=by
 cases x with
 |tmp k=>
  unfold fetch at h;simp only at h;split at h
  ·rename_i u hu;have:ev env (.tmp k)=u:=by show (env.lookup k).getD .any=u;rw[←hT k,hu];rfl
   unfold rho;rw[this];exact zqY h
  cases h
 |const c=>exact zqY h
 |global k=>
  unfold fetch at h;simp only at h;unfold rho ev;split at h
  ·rename_i cs hc;cases h;simp only[hc];exact⟨rfl,trivial⟩
  cases h
 |func f=>cases h;exact⟨rfl,trivial⟩
def zdp {t:Tr}{env:Env}(hT:TE t env):∀ {l:List Operand} {vs:ZA},zgy t l=some vs→l.map (rho env)=vs∧needs (l.map (ev env))
 |[],vs,h=>by cases h;exact⟨rfl,trivial⟩
 |x::r,vs,h=>by
  unfold zgy at h;split at h
  ·rename_i v hv;split at h
   ·rename_i l hl;cases h;obtain⟨h1,h2⟩:=zB hT hv;obtain⟨h3,h4⟩:=zdp hT hl;exact⟨by rw[YN,h1,h3],h2,h4⟩
   cases h
  cases h
def zif {t:Tr}{env:Env}(hT:TE t env):∀ {l:List (Nat×Operand)} {vs:List (Nat×V)},zns t l=some vs→l.map (fun p=>(p.1,rho env p.2))=vs∧needs (l.map fun p=>ev env p.2)
 |[],vs,h=>by cases h;exact⟨rfl,trivial⟩
 |x::r,vs,h=>by
  unfold zns at h;split at h
  ·rename_i v hv;split at h
   ·rename_i l hl;cases h;obtain⟨h1,h2⟩:=zB hT hv;obtain⟨h3,h4⟩:=zif hT hl;exact⟨by rw[YN,h1,h3],h2,h4⟩
   cases h
  cases h
def zih {t:Tr}{env:Env}(hT:TE t env){x:Option Operand}{v:Option V}(h:znt t x=some v):x.map (rho env)=v∧∀y,x=some y→(ev env y).cond:=by
 cases x with
 |none=>cases h;exact⟨rfl,fun y e=>by cases e⟩
 |some x=>
  unfold znt at h;simp only at h;split at h
  ·rename_i u hu;cases h;obtain⟨h1,h2⟩:=zB hT hu;exact⟨by rw[Yau,h1],fun y e=>by cases e;exact h2⟩
  cases h
def ERof(C:Cfg)(P:Program)(env:Env)(op:Op)(H:Hp):ER→Prop
 | .ok st v h f=>∃pre:Prop,step1 C P env op H=.ok st pre v h f∧pre
 | .pan v=>∃(pre:Prop)(R:ZN),step1 C P env op H=.pan pre v R∧pre
 | .bad=>True
def za4 {C:Cfg}{env:Env}{op:Op}{H:Hp}{st p:Bool}{r:AR}{pre:Prop}(h1:step1 C P env op H=.ok st pre r.v r.h ⟨r.R,r.W,H.next,r.h.next⟩)(h2:p=true→pre):ERof C P env op H (eFin st p r H):=by
 unfold eFin;cases p with
 |true=>exact⟨pre,h1,h2 rfl⟩
 |false=>trivial
def zgA {C:Cfg}{env:Env}{op:Op}{H:Hp}{q:Option XR}{pre:Prop}(h:step1 C P env op H=.ok false (pre∧(XR.ar H q).pre) (XR.ar H q).v (XR.ar H q).h ⟨(XR.ar H q).R,(XR.ar H q).W,H.next,(XR.ar H q).h.next⟩)(hp:pre):ERof C P env op H (eXR q H):=by
 cases q with
 |none=>trivial
 |some r=>exact⟨_,h,hp,trivial⟩
def nd1 {env:Env}{x:Operand}(h:(ev env x).cond):needs ([x].map (ev env)):=⟨h,trivial⟩
def nd2 {env:Env}{x y:Operand}(h:(ev env x).cond)(k:(ev env y).cond):needs ([x,y].map (ev env)):=⟨h,k,trivial⟩
def zrT {C:Cfg}(hΔ:∀f ags H r,C.Δ f ags H=some r→r.pre){env:Env}{f:Operand}{args:Array Operand}{argTypes:Array TypeId}{fid:FuncId}{ags:ZA}{H:Hp} (hs:step1 C P env (.call { callee:=.value f,args,argTypes }) H=zcw C fid ags ((ev env f).cond∧needs (args.toList.map (ev env))) H) (nd:(ev env f).cond∧needs (args.toList.map (ev env))):ERof C P env (.call { callee:=.value f,args,argTypes }) H (eCall C fid ags H):=by
 generalize ((ev env f).cond∧needs (args.toList.map (ev env)))=ndp at hs nd;unfold zcw at hs;unfold eCall;cases hl:(zcq ags).isEmpty with
 |true=>
  rw[Yi hl]at hs;simp only[YaF];cases hg:C.Γ fid (ags.map nz)with
  |some r=>
   rw[hg]at hs;cases r with
   |ret v=>exact⟨_,hs,nd⟩
   |panic v=>exact⟨_,_,hs,nd⟩
  |none=>
   rw[hg]at hs;simp only at hs ⊢;cases hd:C.Δ fid ags H with
   |some r=>rw[hd]at hs;exact⟨_,hs,nd,hΔ _ _ _ _ hd⟩
   |none=>trivial
 |false=>
  rw[Yh (by rw[hl];simp)]at hs;simp only[Yb2];cases hd:C.Δ fid ags H with
  |some r=>rw[hd]at hs;exact⟨_,hs,nd,hΔ _ _ _ _ hd⟩
  |none=>
   rw[hd]at hs;simp only at hs ⊢;cases hg:C.Γ fid (ags.map (lend H))with
   |none=>trivial
   |some r=>
    rw[hg]at hs;cases r with
    |ret v=>
     simp only;cases hv:zaz v with
     |true=>exact⟨_,hs,nd,hv⟩
     |false=>trivial
    |panic v=>
     simp only;cases hv:zaz v with
     |true=>exact⟨_,_,hs,nd,hv⟩
     |false=>trivial
def zg3 {C:Cfg}(hΔ:∀f ags H r,C.Δ f ags H=some r→r.pre){t:Tr}{env:Env}(hT:TE t env)(op:Op)(H:Hp):ERof C P env op H (zi8 C P t op H):=by
 unfold zi8;cases op
 case move x=>
  simp only
  split
  ·rename_i v hv;obtain⟨rfl,h2⟩:=zB hT hv;exact⟨_,rfl,nd1 h2,trivial⟩
  ·trivial
 case assign x=>
  simp only
  split
  ·rename_i v hv;obtain⟨rfl,h2⟩:=zB hT hv;exact⟨_,rfl,nd1 h2,trivial⟩
  ·trivial
 case load ty a=>
  simp only
  split
  ·rename_i v hv;obtain⟨rfl,h2⟩:=zB hT hv;exact za4 rfl fun h=>⟨nd1 h2,zrh h⟩
  ·trivial
 case binOp b ty x y z=>
  simp only
  split
  ·rename_i v hv;split
   ·rename_i u hu;obtain⟨rfl,h2⟩:=zB hT hv;obtain⟨rfl,h3⟩:=zB hT hu;exact za4 rfl fun h=>⟨nd2 h2 h3,pBin_ok h⟩
   trivial
  ·trivial
 case indexAddr ty x i=>
  simp only
  split
  ·rename_i v hv;split
   ·rename_i u hu;obtain⟨rfl,h2⟩:=zB hT hv;obtain⟨rfl,h3⟩:=zB hT hu;exact za4 rfl fun h=>⟨nd2 h2 h3,zkQ h⟩
   trivial
  ·trivial
 case index ty x i=>
  simp only
  split
  ·rename_i v hv;split
   ·rename_i u hu;obtain⟨rfl,h2⟩:=zB hT hv;obtain⟨rfl,h3⟩:=zB hT hu;exact za4 rfl fun h=>⟨nd2 h2 h3,zxu h⟩
   trivial
  ·trivial
 case store ty a x=>
  simp only
  split
  ·rename_i v hv;split
   ·rename_i u hu;obtain⟨rfl,h2⟩:=zB hT hv;obtain⟨rfl,h3⟩:=zB hT hu;exact za4 rfl fun h=>⟨nd2 h2 h3,zxp h⟩
   trivial
  ·trivial
 case makeSlice ty l c=>
  simp only
  split
  ·rename_i v hv;split
   ·rename_i u hu;obtain⟨rfl,h2⟩:=zB hT hv;obtain⟨rfl,h3⟩:=zB hT hu;exact za4 rfl fun h=>⟨nd2 h2 h3,zkO h⟩
   trivial
  ·trivial
 case nilCheck x=>
  simp only
  split
  ·rename_i v hv;obtain⟨rfl,h2⟩:=zB hT hv;exact za4 rfl fun h=>⟨nd1 h2,pNil_ok h⟩
  ·trivial
 case fieldAddr ty x f=>
  simp only
  split
  ·rename_i v hv;obtain⟨rfl,h2⟩:=zB hT hv;exact za4 rfl fun h=>⟨nd1 h2,zkR h⟩
  ·trivial
 case field ty x f=>
  simp only
  split
  ·rename_i v hv;obtain⟨rfl,h2⟩:=zB hT hv;exact za4 rfl fun h=>⟨nd1 h2,zxw h⟩
  ·trivial
 case extract x i=>
  simp only
  split
  ·rename_i v hv;obtain⟨rfl,h2⟩:=zB hT hv;exact za4 rfl fun h=>⟨nd1 h2,zpb h⟩
  ·trivial
 case unOp o ty x=>
  simp only
  split
  ·rename_i v hv;obtain⟨rfl,h2⟩:=zB hT hv;exact za4 rfl fun h=>⟨nd1 h2,pUn_ok h⟩
  ·trivial
 case convert s d x=>
  simp only
  split
  ·rename_i v hv;obtain⟨rfl,h2⟩:=zB hT hv;exact za4 rfl fun h=>⟨nd1 h2,pConv_ok h⟩
  ·trivial
 case makeInterface ty x=>
  simp only
  split
  ·rename_i v hv;obtain⟨rfl,h2⟩:=zB hT hv;exact za4 rfl fun h=>⟨nd1 h2,zkP h⟩
  ·trivial
 case typeAssert x ty0 ty ok=>
  simp only
  split
  ·rename_i v hv;obtain⟨rfl,h2⟩:=zB hT hv;exact za4 rfl fun h=>⟨nd1 h2,ztJ h⟩
  ·trivial
 case makeMap ty r=>
  cases r with
  |some r=>trivial
  |none=>exact zgA (pre:=True) rfl trivial
 case lookup ty x k ok=>
  simp only
  split
  ·rename_i v hv;split
   ·rename_i u hu;obtain⟨rfl,h2⟩:=zB hT hv;obtain⟨rfl,h3⟩:=zB hT hu;exact zgA rfl (nd2 h2 h3)
   trivial
  ·trivial
 case mapUpdate ty m k x=>
  simp only
  split
  ·rename_i v hv;split
   ·rename_i u hu;split
    ·rename_i z hz;obtain⟨rfl,h2⟩:=zB hT hv;obtain⟨rfl,h3⟩:=zB hT hu;obtain⟨rfl,h4⟩:=zB hT hz;exact zgA rfl ⟨h2,h3,h4,trivial⟩
    trivial
   trivial
  ·trivial
 case insert ty m k x=>
  simp only
  split
  ·rename_i v hv;split
   ·rename_i u hu;split
    ·rename_i z hz;obtain⟨rfl,h2⟩:=zB hT hv;obtain⟨rfl,h3⟩:=zB hT hu;obtain⟨rfl,h4⟩:=zB hT hz;exact zgA rfl ⟨h2,h3,h4,trivial⟩
    trivial
   trivial
  ·trivial
 case mapEntry ty m k=>
  simp only
  split
  ·rename_i v hv;split
   ·rename_i u hu;obtain⟨rfl,h2⟩:=zB hT hv;obtain⟨rfl,h3⟩:=zB hT hu;exact zgA rfl (nd2 h2 h3)
   trivial
  ·trivial
 case entryStore ty m n x=>
  simp only
  split
  ·rename_i v hv;split
   ·rename_i u hu;split
    ·rename_i z hz;obtain⟨rfl,h2⟩:=zB hT hv;obtain⟨rfl,h3⟩:=zB hT hu;obtain⟨rfl,h4⟩:=zB hT hz;exact zgA rfl ⟨h2,h3,h4,trivial⟩
    trivial
   trivial
  ·trivial
 case range ty x=>
  simp only
  split
  ·rename_i v hv;obtain⟨rfl,h2⟩:=zB hT hv;exact zgA rfl (nd1 h2)
  ·trivial
 case entry x=>
  simp only
  split
  ·rename_i v hv;obtain⟨rfl,h2⟩:=zB hT hv;exact zgA rfl (nd1 h2)
  ·trivial
 case alloc ty=>exact za4 rfl fun h=>⟨trivial,zxA h⟩
 case box ty x=>
  simp only
  split
  ·rename_i v hv;obtain⟨rfl,h2⟩:=zB hT hv;cases hk:zq (rho env x)with
   |false=>trivial
   |true=>
    simp only[YaF];cases hz:C.fz ty with
    |true=>refine⟨(ev env x).cond∧zq (ev env x).val=true,?_,h2,hk⟩;show (if C.fz ty=true then _ else _)=_;rw[Yi hz];rfl
    |false=>refine⟨needs [ev env x]∧(aop P (rho env) (.box ty x) H).pre,?_,nd1 h2,hk⟩;show (if C.fz ty=true then _ else _)=_;rw[Yh (by rw[hz];simp)];rfl
  ·trivial
 case build ty ps=>
  simp only
  split
  ·rename_i l hl;obtain⟨rfl,h2⟩:=zif hT hl;refine za4 rfl fun h=>⟨?_,zxy h⟩;have e:(Op.build ty ps).operands.toList=ps.toList.map (·.2):=by simp[Op.operands]
   rw[e,List.map_map];exact h2
  ·trivial
 case buildSlice ty n ps=>
  simp only
  split
  ·rename_i l hl;obtain⟨rfl,h2⟩:=zif hT hl;refine za4 rfl fun h=>⟨?_,ziT h⟩;have e:(Op.buildSlice ty n ps).operands.toList=ps.toList.map (·.2):=by simp[Op.operands]
   rw[e,List.map_map];exact h2
  ·trivial
 case makeFunc f first caps=>
  cases f<;>first|trivial|skip
  rename_i f
  simp only
  cases hs:Nat.beq first.size 0 with
  |true=>
   simp only[YaF]
   split
   ·rename_i l hl;obtain⟨rfl,h2⟩:=zdp hT hl;have h0:first.size=0:=YaS hs;have hf:first=#[]:=by simpa using h0
    subst hf;refine⟨_,rfl,?_,trivial⟩;have e:(Op.makeFunc (.func f) #[] caps).operands.toList=caps.toList:=by simp[Op.operands]
    rw[e];exact h2
   ·trivial
  |false=>
   simp only[Yb2]
   cases hc:Nat.beq caps.size 0 with
   |false=>trivial
   |true=>
    simp only[YaF]
    split
    ·rename_i l hl;obtain⟨rfl,h2⟩:=zdp hT hl;have h0:caps.size=0:=YaS hc;have hf:caps=#[]:=by simpa using h0
     subst hf;have hne:¬first.size=0:=fun e=>by rw[e]at hs;cases hs
     have haop:aop P (rho env) (.makeFunc (.func f) first #[]) H=.val H (.bnd f (first.toList.map (rho env))):=by simp only[aop];rw[Yh hne,Yi (by rfl)]
     refine⟨needs ((Op.makeFunc (.func f) first #[]).operands.toList.map (ev env))∧(aop P (rho env) (.makeFunc (.func f) first #[]) H).pre,?_,?_,by rw[haop];trivial⟩
     ·show SR.ok _ _ (aop P (rho env) (.makeFunc (.func f) first #[]) H).v (aop P (rho env) (.makeFunc (.func f) first #[]) H).h ⟨(aop P (rho env) (.makeFunc (.func f) first #[]) H).R,(aop P (rho env) (.makeFunc (.func f) first #[]) H).W,H.next,(aop P (rho env) (.makeFunc (.func f) first #[]) H).h.next⟩=_;rw[haop];rfl
     have e:(Op.makeFunc (.func f) first #[]).operands.toList=first.toList:=by simp[Op.operands]
     rw[e];exact h2
    ·trivial
 case slice ty x lo hi mx=>
  simp only
  split
  rotate_left;·trivial
  rename_i v hv
  split
  rotate_left;·trivial
  rename_i l hl
  split
  rotate_left;·trivial
  rename_i h hh
  split
  rotate_left;·trivial
  rename_i m hm
  obtain⟨rfl,h1⟩:=zB hT hv
  obtain⟨rfl,h2⟩:=zih hT hl
  obtain⟨rfl,h3⟩:=zih hT hh
  obtain⟨rfl,h4⟩:=zih hT hm
  refine za4 rfl fun h=>⟨?_,zxr h⟩
  cases lo<;>cases hi<;>cases mx<;>simp only[Op.operands]<;>simp[needs,h1,h2,h3,h4]
 case pick c a b=>
  simp only
  split
  ·rename_i hc;split
   ·rename_i v hv;obtain⟨e1,h1⟩:=zB hT hc;obtain⟨rfl,h2⟩:=zB hT hv;refine⟨(ev env c).cond∧(true=true→(ev env a).cond)∧(true=false→(ev env b).cond),?_,h1,fun _=>h2,fun e=>by cases e⟩;show zc9 (ev env c) (ev env a) (ev env b) H=_;have e1':(ev env c).val=.bool true:=e1;unfold zc9;rw[e1'];simp only[rho];split
    ·rename_i x y hx hy;rw[hx];rfl
    rfl
   trivial
  ·rename_i hc;split
   ·rename_i v hv;obtain⟨e1,h1⟩:=zB hT hc;obtain⟨rfl,h2⟩:=zB hT hv;refine⟨(ev env c).cond∧(false=true→(ev env a).cond)∧(false=false→(ev env b).cond),?_,h1,fun e=>by(cases e),fun _=>h2⟩;show zc9 (ev env c) (ev env a) (ev env b) H=_;have e1':(ev env c).val=.bool false:=e1;unfold zc9;rw[e1'];simp only[rho];split
    ·rename_i x y hx hy;rw[hy];rfl
    rfl
   trivial
  ·trivial
 case panic x=>
  simp only
  split
  ·rename_i ty v hv;obtain⟨e1,h1⟩:=zB hT hv;refine⟨(ev env x).cond,[],?_,h1⟩;have e1':(ev env x).val=.ifc ty v:=e1;show (match (ev env x).val with| .ifc t v=>SR.pan (ev env x).cond (.ifc t v) []|_=>.bad)=_;rw[e1']
  ·trivial
 case call c=>
  obtain⟨callee,args,argTypes⟩:=c
  cases callee
  case value f=>
   simp only
   split
   ·rename_i fid caps hf;split
    ·rename_i l hl;obtain⟨e1,h1⟩:=zB hT hf;obtain⟨rfl,h2⟩:=zdp hT hl;have e1':(ev env f).val=.fn fid caps:=e1;refine zrT hΔ ?_ ⟨h1,h2⟩;show (match (ev env f).val with
      | .fn fid caps=>zcw C fid (args.toList.map (rho env)++caps) ((ev env f).cond∧needs (args.toList.map (ev env))) H
      | .bnd fid fs=>zcw C fid (fs++args.toList.map (rho env)) ((ev env f).cond∧needs (args.toList.map (ev env))) H
      |_=>.bad)=_
     rw[e1']
    trivial
   ·rename_i fid fs hf;split
    ·rename_i l hl;obtain⟨e1,h1⟩:=zB hT hf;obtain⟨rfl,h2⟩:=zdp hT hl;have e1':(ev env f).val=.bnd fid fs:=e1;refine zrT hΔ ?_ ⟨h1,h2⟩;show (match (ev env f).val with
      | .fn fid caps=>zcw C fid (args.toList.map (rho env)++caps) ((ev env f).cond∧needs (args.toList.map (ev env))) H
      | .bnd fid fs=>zcw C fid (fs++args.toList.map (rho env)) ((ev env f).cond∧needs (args.toList.map (ev env))) H
      |_=>.bad)=_
     rw[e1']
    trivial
   ·trivial
  case builtin b=>
   simp only
   split
   ·rename_i l hl;obtain⟨rfl,h2⟩:=zdp hT hl;refine za4 rfl fun h=>⟨?_,zpc h⟩;have e:(Op.call { callee:=.builtin b,args,argTypes }).operands.toList=args.toList:=by simp[Op.operands,Call.operands]
    rw[e];exact h2
   ·trivial
  all_goals trivial
 all_goals trivial
end Go.Ab
