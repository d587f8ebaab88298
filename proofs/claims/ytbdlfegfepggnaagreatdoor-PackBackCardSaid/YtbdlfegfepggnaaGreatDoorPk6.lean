/- Pack's writer: lists of strings. -/
import Derived.Test.YtbdlfegfepggnaaGreatDoorPk3
import Derived.Shelf.Small.Bits
set_option linter.all false
set_option maxHeartbeats 16000000
set_option maxRecDepth 100000
noncomputable section
namespace Go.Proofs
open Tryz Go.Ab Go.Pl
attribute [local go_sem] zbg
def zt3(l:ZL)(la fr:Int):ZA→Option Wst
 |[.int .i64 n]=>if l.length≤90000000∧0≤n∧n.toNat<128^6 then some (l++varF 5 n.toNat,la,fr)else none
 |_=>none
def zkY:∀args H r,WrR zt3 (.tup []) args H r→HCall prog 26 args H r:=by
 refine zkW (.tup Zs) fun l la fr rest l' la' fr' h0 hs=>?_;unfold zt3 at hs;split at hs
 ·split at hs
  ·rename_i n hx;obtain⟨a1,a2,a3⟩:=hx;cases hs;refine⟨by simp[zaz],?_⟩;have:=varint_N l la fr n.toNat h0 a1 a3;rw[Int.toNat_of_nonneg a2]at this;exact this
  cases hs
 cases hs
def Δw2:FuncId→ZA→Hp→Option AR:=zaQ 26 (conD (WrR zt3 (.tup []))) (zaQ 31 (fun _ _=>none) (zaQ 64 (conD (WrR zpn (.tup []))) Δw1))
def zeg:zay prog Δw2:=zK (zT zkY) (zK (fun _ _ _ h=>by cases h) (zK (zT flag_ok) ztm))
def zi3(b c k:Nat)(l:ZL)(la fr:Int)(n:Nat)(bs:ZH)(nx:Nat)(hb:zG bs b=some (.cells [.sl c 0 k 1 none,.int .i64 0,.int .i8 0,.int .u8 la,.int .i64 fr]))(hc:zG bs c=some (bly l))(hk':k=l.length)(h:l≠[])(hl:l.length≤90000000)(hn:n<128^6)(hk:((keysB bs).all fun b=>decide (b<nx))=true):Δw2 26 [.ptr b 0,.int .i64 n] ⟨bs,nx⟩=some ⟨True,.tup [],(((⟨bs,nx⟩:Hp).put b (.cells [.sl nx 0 (l++varF 5 n).length 1 none,.int .i64 0,.int .i8 0,.int .u8 la,.int .i64 fr])).kill c).new (bly (l++varF 5 n)),[b,c],[b,c]⟩:=
 zqQ (st:=zt3) (s':=(l++varF 5 n,la,fr)) hb hc hk' h (Yi ⟨hl,Int.natCast_nonneg _,hn⟩) hk
def zoU(b c n:Nat)(l s:ZL)(la fr:Int)(bs:ZH)(nx:Nat)(hb:zG bs b=some (.cells [.sl c 0 n 1 none,.int .i64 0,.int .i8 0,.int .u8 la,.int .i64 fr]))(hc:zG bs c=some (bly l))(hn:n=l.length)(h0:l≠[])(hl:l.length≤100000000)(hs:s.length≤100000000)(hk:((keysB bs).all fun b=>decide (b<nx))=true):Δw2 24 [.ptr b 0,.str s] ⟨bs,nx⟩=some ⟨True,.tup [.int .i64 s.length,.nilI],(((⟨bs,nx⟩:Hp).put b (.cells [.sl nx 0 (l++s).length 1 none,.int .i64 0,.int .i8 0,.int .u8 la,.int .i64 fr])).kill c).new (bly (l++s)),[b,c],[b,c]⟩:=wsB_eq hb hc hn h0 hl hs hk
def cpl:ZL→ZL→Nat
 |a::r,b::q=>if a=b then cpl r q+1 else 0
 |_,_=>0
def zbc:ZL→List ZL→ZL
 |_,[]=>[]
 |last,s::r=>varF 5 (cpl last s)++(varF 5 (s.length-cpl last s)++(s.drop (cpl last s)++zbc s r))
def zqb:∀(a b:ZL),cpl a b≤a.length∧cpl a b≤b.length
 |[],b=>by simp[cpl]
 |_::_,[]=>by simp[cpl]
 |a::r,b::q=>by have:=zqb r q;unfold cpl;split<;>simp<;>omega
def zwT:∀(a b:ZL)(i:Nat),i<cpl a b→a[i]? =b[i]?
 |[],b,i,h=>by simp[cpl]at h
 |_::_,[],i,h=>by simp[cpl]at h
 |a::r,b::q,i,h=>by
  unfold cpl at h;split at h
  ·rename_i e;subst e;match i with
   |0=>rfl
   |i+1=>simpa using zwT r q i Zo
  omega
def zqa:∀(a b:ZL),cpl a b<a.length→cpl a b<b.length→a[cpl a b]? ≠b[cpl a b]?
 |[],b,h,_=>by simp at h
 |_::_,[],_,h=>by simp at h
 |a::r,b::q,h1,h2=>by
  unfold cpl at h1 h2 ⊢;by_cases e:a=b
  ·rw[Yi e]at h1 h2 ⊢;simpa using zqa r q (by simpa using h1) (by simpa using h2)
  rw[Ye e];simpa using e
def zdX:∀(k n:Nat),(varF k n).length≤k+1
 |0,_=>by simp[varF]
 |k+1,n=>by have:=zdX k (n/128);unfold varF;split<;>simp;omega
def sumL(l:List ZL):Nat:=(l.map List.length).sum
def fold_N(d:ZL)(la fr:Int)(l:List ZL)(h0:d≠[])(hl:d.length+20*l.length+sumL l≤80000000)(hs:∀s∈l,s.length≤1000000):NCall prog 27 [.ptr 0 0,.fs (strs l) l.length] [wB 1 d.length la fr,bly d] [0,1] (.tup []) ⟨[(0,wB 2 (d++zbc [] l).length la fr),(2,bly (d++zbc [] l))],3⟩:=by
 unfold wB;refine Xi (rs:=[]) [0,1,4,6,7,8,9,10,11,29] [] 2 [0,1] mixed (zh) (zeg) call27 func27 rfl ntmps27 rfl Zk Zs Zs Zs Zs ?_;simp only[go_sem];refine AXs.loop mixed (zh) (zeg) (ι:=Nat×ZL×ZL) (fun i=>[(10,.int .i64 i.1),(9,.int .i64 l.length),(8,.fs (strs l) l.length),(4,.str i.2.1),(0,.ptr 0 0)]) (fun i=>⟨[(0,.cells [.sl 2 0 i.2.2.length 1 none,.int .i64 0,.int .i8 0,.int .u8 la,.int .i64 fr]),(2,bly i.2.2)],3⟩) (fun i=>i.1≤l.length∧i.2.2≠[]∧i.2.2.length+20*(l.drop i.1).length+sumL (l.drop i.1)≤80000000∧i.2.1.length≤1000000∧i.2.2++zbc i.2.1 (l.drop i.1)=d++zbc [] l) (fun i=>l.length-i.1) (0,[],d) Zk ⟨Yk _,h0,hl,Zs,rfl⟩ (Xg [(2,1)] rfl ?_ ?_ ?_ ?_) ?_
 ·simp only[go_sem]
 ·simp only[go_sem]
 ·decide
 ·exact ZE
 rintro⟨i,p,q⟩ ⟨g1,g2,g3,g4,g5⟩;dsimp only at g1 g2 g3 g4 g5;simp only[go_sem];refine Xc (fun hc=>?_) (fun hc=>?_)
 ·have hi:i<l.length:=Zo;obtain⟨s,hs1⟩:∃s,l[i]? =some s:=⟨_,Yb hi⟩;have hdr:l.drop i=s::l.drop (i+1):=by have:=Ys.1 hs1;rw[Yaw hi,this.2]
  have hgd:l.getD i []=s:=by simp[hs1]
  have hsl:s.length≤1000000:=hs s (YV hs1);rw[hdr]at g3 g5;rw[sumL,Y7,List.sum_cons,←sumL,Yv]at g3;simp(disch:=try exact Zq)only[go_sem,hgd];refine⟨Zo,Zo,AXs.loop mixed (zh) (zeg) (ι:=Nat) (fun k=>[(7,.int .i64 k),(6,.str s),(10,.int .i64 i),(9,.int .i64 l.length),(8,.fs (strs l) l.length),(4,.str p),(0,.ptr 0 0)]) (fun _=>⟨[(0,.cells [.sl 2 0 q.length 1 none,.int .i64 0,.int .i8 0,.int .u8 la,.int .i64 fr]),(2,bly q)],3⟩) (fun k=>k≤cpl p s) (fun k=>cpl p s-k) 0 Zk (Yk _) (Xg [] rfl ?_ ?_ Zd ?_) ?_⟩
  ·simp only[go_sem]
  ·simp only[go_sem]
  ·exact ZE
  intro k hk;have hcl:=zqb p s;have hm:(k:Int)<minI p.length s.length↔k<p.length∧k<s.length:=by unfold minI;split<;>omega
  by_cases hlt:k<cpl p s
  ·have T1:decide ((k:Int)<minI p.length s.length)=true:=Yf (hm.2 Zo);have T2:p.getD k 0=s.getD k 0:=by rw[Ya,Ya,zwT p s k hlt]
   have ek1:(k:Int)+1=((k+1:Nat):Int):=Zo;simp(disch:=try exact Zq)only[go_sem,T1,T2,ek1];refine⟨Zo,Zo,zi (k+1) hlt (by show cpl p s-(k+1)<cpl p s-k;omega) (Xg [] rfl (by simp(disch:=try exact Zq)only[go_sem]) Zg Zd ?_)⟩;exact ZE
  have ek:k=cpl p s:=Zo;have T3:(decide ((k:Int)<minI p.length s.length)&&decide (((p.getD k 0).toNat:Int)=((s.getD k 0).toNat:Int)))=false:=by
   rw[Ycn];by_cases h:k<p.length∧k<s.length
   ·right;refine Yd fun e=>zqa p s Zo Zo ?_;have e2:p.getD k 0=s.getD k 0:=YbB.1 Zo;rw[←ek,Yb h.1,Yb h.2];simpa[h.1,h.2]using e2
   left;exact Yd fun e=>h (hm.1 e)
  simp(disch:=try exact Zq)only[go_sem,T3];refine⟨fun e=>⟨e,Zo,by have:=hm.1 (Yah e);omega⟩,fun e=>⟨e,Zo,by have:=hm.1 (Yah e);omega⟩,?_⟩;refine AXa.go mixed (zh) (zeg) Zk ?_;have hv1:=zdX 5 k;have hv2:=zdX 5 (s.length-k);have eL:(s.length:Int)-k=((s.length-k:Nat):Int):=Zo;have n1:q++varF 5 k≠[]:=by simp[g2]
  have n2:q++varF 5 k++varF 5 (s.length-k)≠[]:=by simp[g2]
  have hdl:(s.drop k).length≤1000000:=by rw[Yai];omega
  have ek1:(i:Int)+1=((i+1:Nat):Int):=Zo;simp(disch:=try exact Zp)only[go_sem,zi3,zoU,eL,Ym,Nat.min_self,ek1];refine⟨Zd,Zd,Zo,Zd,AXk.intro Zk ?_⟩;simp(disch:=try exact Zp)only[go_sem,zi3,zoU,eL,Ym,Nat.min_self,ek1];have hfin:q++varF 5 k++varF 5 (s.length-k)++s.drop k++zbc s (l.drop (i+1))=d++zbc [] l:=by rw[←g5];show _=q++(varF 5 (cpl p s)++(varF 5 (s.length-cpl p s)++(s.drop (cpl p s)++zbc s (l.drop (i+1)))));rw[←ek];simp only[YH]
  refine zi (i+1,s,q++varF 5 k++varF 5 (s.length-k)++s.drop k) ⟨hi,by simp[g2],?_,hsl,hfin⟩ (by show l.length-(i+1)<l.length-i;omega) (Xg [(2,5)] rfl (by simp(disch:=try exact Zq)only[go_sem]) Zg Zd ?_)
  ·simp only[Yg,Yai]at g3 ⊢;omega
  exact ZE
 simp only[go_sem];have hi:l.drop i=[]:=Ybx Zo;rw[hi,zbc,Yab]at g5;rw[←g5];refine⟨[],Xg [] rfl Zg Zg Zd ?_⟩;exact ZE
end Go.Proofs

namespace Go.Proofs
open Tryz Go.Ab Go.Pl Go.Cnt Go.Shelf Go.RowKit
def renL:Ren where
 f:=fun x=>match x with|125=>63|128=>84|129=>85|n=>n
 t:=fun x=>match x with|3=>3|4=>4|5=>5|9=>9|46=>83|51=>81|53=>129|n=>n
 g:=fun x=>x
def laysL125:Lays.n125 prog renL:=by constructor<;>first|kernel_rfl|(intro w;kernel_rfl)|(constructor<;>first|kernel_rfl|(intro w;kernel_rfl))
def len_ok(n:Nat)(h:n<18446744073709551616):PCall prog 63 [.int .u64 n] (.ret (.int .i64 (Lib.bitLen n:Nat))):=by
 refine Xo call63 rfl fun g w vs hg hf hvs hp=>?_;obtain⟨x,rfl,r⟩:=args1 hvs hp;obtain rfl:=r.inv_int;refine(Any.bits_Len laysL125 n w Zo Zo).mono fun e w' ⟨he,hw⟩=>⟨_,he,?_,?_⟩
 ·rw[Yq];exact .int _ _
 rw[hw];exact Bel.refl _ _
def cLen:ZV:=zL (fun n:Nat=>[.int .u64 n]) (fun n=>n<18446744073709551616) fun n=>.ret (.int .i64 (Lib.bitLen n:Nat))
def cLen_eq(n:Nat)(h:n<18446744073709551616):cLen [.int .u64 n]=some (.ret (.int .i64 (Lib.bitLen n:Nat))):=zo (pat:=fun n:Nat=>[V.int .u64 n]) (fun x y h=>by simp at h;omega) n h
def cLen_ok:ZC cLen 63:=zn len_ok
def widI(n:Int):Nat:=Lib.bitLen n.toNat
def width_ok(n:Int)(h:n≤4611686018427387904):PCall prog 29 [.int .i64 n] (.ret (.int .i64 (widI n:Nat))):=by
 refine Xa (rs:=[.tmp 2]) [0,2] [] mixed (zf cLen_ok zh) (zg) call29 func29 rfl ntmps29 rfl ?_;have e:IntKind.u64.wrap (maxI n 0)=((n.toNat:Nat):Int):=by
  have h1:maxI n 0=((n.toNat:Nat):Int):=by unfold maxI;split<;>omega
  rw[h1];exact wrap_u64 _ Zo Zo
 simp(disch:=try exact Zq)only[go_sem,e,cLen_eq];rfl
def cWid:ZV:=zL (fun n:Int=>[.int .i64 n]) (fun n=>n≤4611686018427387904) fun n=>.ret (.int .i64 (widI n:Nat))
def zN(n:Int)(h:n≤4611686018427387904):cWid [.int .i64 n]=some (.ret (.int .i64 (widI n:Nat))):=zo (pat:=fun n:Int=>[V.int .i64 n]) (fun x y h=>by simpa using h) n h
def zb5:ZC cWid 29:=zn width_ok
def zct(n:Int):widI n≤64:=by
 have h:∀(f x:Nat),Lib.bitLenAux f x≤f:=by
  intro f;induction f with
  |zero=>intro x;exact Yc _
  |succ f ih=>
   intro x;unfold Lib.bitLenAux;split
   ·omega
   have:=ih (x/2);omega
 exact h 64 _
def zi8 {n k:Nat}(h:n<2^k)(hk:k≤64):widI n≤k:=by
 show Lib.bitLenAux 64 (n:Int).toNat≤k;rw[Yq,Lib.bitLenAux_fuel k n h 64 hk];have h:∀(f x:Nat),Lib.bitLenAux f x≤f:=by
  intro f;induction f with
  |zero=>intro x;exact Yc _
  |succ f ih=>
   intro x;unfold Lib.bitLenAux;split
   ·omega
   have:=ih (x/2);omega
 exact h k n
def vint {k:IntKind}{a b:Int}(h:a=b):V.int k a=V.int k b:=by rw[h]
structure Lay where
 nm:Nat
 wt:Nat
 st:Nat
 ar:Nat
def layV(x:Lay)(b:Nat):V:=.agg [.int .i64 x.nm,.int .i64 x.wt,.int .i64 x.st,.int .i64 x.ar,.map b]
def staV(s:Sta):V:=.agg [.str s.f,.fs (arcs s.a) s.a.length]
def zgK(x:Lay)(a:Arc):Nat:=1+widI x.nm+widI ((x.wt:Int)-1)+widI ((x.st:Int)-1)+(if a.i=a.o then 0 else widI x.nm)
def zb8(x:Lay)(s:Sta):Nat:=1+widI x.ar+(if s.f=[]then 0 else widI ((x.wt:Int)-1))+(s.a.map (zgK x)).sum
def zF(x:Lay)(s:Sta)(i:Nat):Nat:=1+widI x.ar+(if s.f=[]then 0 else widI ((x.wt:Int)-1))+((s.a.take i).map (zgK x)).sum
def zfp(x:Lay)(s:Sta)(i:Nat)(h:i<s.a.length):zF x s (i+1)=zF x s i+zgK x (nthA s.a i):=by unfold zF;rw[show s.a.take (i+1)=s.a.take i++[nthA s.a i]from arcR.take_nth s.a i h,Yax,List.sum_append];simp;omega
def zdZ(x:Lay)(s:Sta):∀i,i≤s.a.length→zF x s i≤200+300*i
 |0,_=>by have:=zct x.ar;have:=zct ((x.wt:Int)-1);simp[zF];split<;>omega
 |i+1,h=>by have ih:=zdZ x s i Zo;have:=zct x.nm;have:=zct ((x.wt:Int)-1);have:=zct ((x.st:Int)-1);rw[zfp x s i Zo];unfold zgK;split<;>omega
def rnb_mpS7 {π:Nat→Nat}{N:Nat→Prop}(l l':Ens)(c c':Nat):l=l'∧c=c'→RnB π N (.mp (mpS 0 l) c) (.mp (mpS 0 l') c'):=by
 rintro⟨rfl,rfl⟩;have hpu:∀(i:Nat)(l:Ens),(∀x∈(mpS i l).map (·.2.1),Ab.Pure x)∧∀x∈(mpS i l).map (·.2.2),Ab.Pure x:=by
  intro i l;induction l generalizing i with
  |nil=>exact⟨fun x h=>(nomatch h),fun x h=>(nomatch h)⟩
  |cons e l ih=>
   refine⟨fun x h=>?_,fun x h=>?_⟩
   ·rw[mpS,Y7]at h;rcases Yy.1 h with rfl|h
    ·exact .str _
    exact(ih (i+1)).1 x h
   rw[mpS,Y7]at h;rcases Yy.1 h with rfl|h
   ·exact .int _ _
   exact(ih (i+1)).2 x h
 exact .mp rfl (zB (hpu 0 l).1) (zB (hpu 0 l).2)
def mpB(l:Ens):Blk:=.mp (mpS 0 l) l.length
def zjA {π:Nat→Nat}{N:Nat→Prop}(l:Ens):RnB π N (mpB l) (mpB l)↔True:=⟨fun _=>trivial,fun _=>rnb_mpS7 l l _ _ ⟨rfl,rfl⟩⟩
attribute [local go_sem] zjA zbE zas
def size_N(x:Lay)(s:Sta)(m:Ens)(hx:x.nm≤1000000∧x.wt≤1000000∧x.st≤1000000∧x.ar≤1000000)(hs:s.a.length≤1000000):NCall prog 23 [layV x 0,staV s] [mpB m] [] (.int .i64 (zb8 x s:Nat)) ⟨[(0,mpB m)],1⟩:=by
 unfold layV staV;refine NCall.walk (rs:=[.tmp 4]) [0,1,2,3,4,5,7,14,22,23,24,25,48] [] 1 mixed (zf zb5 zh) (zg) call23 func23 rfl ntmps23 rfl Zk Zs Zs Zs ?_;have w1:=zct x.nm;have w2:=zct ((x.wt:Int)-1);have w3:=zct ((x.st:Int)-1);have w4:=zct x.ar;obtain⟨z1,z2,z3,z4⟩:=hx;simp(disch:=try exact Zq)only[go_sem,zN];refine Xl (fun hf=>?_) (fun hf=>?_)
 ·have e0:zF x s 0=1+widI x.ar+(if s.f=[]then 0 else widI ((x.wt:Int)-1)):=by simp[zF]
  rw[Ye hf]at e0;simp(disch:=try exact Zq)only[go_sem,zN];refine AXs.loop mixed (zf zb5 zh) (zg) (ι:=Nat) (fun i=>[(24,.int .i64 i),(23,.int .i64 s.a.length),(22,.fs (arcs s.a) s.a.length),(5,.int .i64 (zF x s i:Nat)),(3,.ptr 2 0),(2,.ptr 1 0)]) (fun _=>⟨[(2,.cells [.str s.f,.fs (arcs s.a) s.a.length]),(1,.cells [.int .i64 x.nm,.int .i64 x.wt,.int .i64 x.st,.int .i64 x.ar,.map 0]),(0,mpB m)],3⟩) (fun i=>i≤s.a.length) (fun i=>s.a.length-i) 0 Zk (Yk _) (Sub.of [] rfl ?_ ?_ Zd ?_) ?_
  ·simp only[go_sem];exact vint Zo
  ·simp only[go_sem]
  ·intro b hb hw;match b,hb with
   |0,_=>rfl
  intro i hi0;have hle:=zdZ x s i hi0;simp(disch:=try exact Zq)only[go_sem];refine Xc (fun hc=>?_) (fun hc=>?_)
  ·have hi:i<s.a.length:=Zo;have at1:=zcA s.a i hi;have hsu:=zfp x s i hi;have hl1:=zdZ x s (i+1) hi;have eq1:((i+1:Nat):Int)=(i:Int)+1:=Zo;simp(disch:=try exact Zq)only[go_sem,zN,at1];refine⟨Zo,AXk.intro Zk ?_⟩;by_cases ha:(nthA s.a i).i=(nthA s.a i).o
   ·have d0:decide ((nthA s.a i).i=(nthA s.a i).o)=true:=Yf ha;rw[zgK,Yi ha]at hsu;simp(disch:=try exact Zq)only[go_sem,zN,at1,d0];refine zi (i+1) hi Zo (Sub.of [] rfl ?_ ?_ Zd ?_)
    ·simp only[go_sem];exact⟨vint Zo,vint Zo⟩
    ·simp only[go_sem]
    intro b hb hw;match b,hb with
    |0,_=>rfl
   have d0:decide ((nthA s.a i).i=(nthA s.a i).o)=false:=Yd ha;rw[zgK,Ye ha]at hsu;simp(disch:=try exact Zq)only[go_sem,zN,at1,d0];refine zi (i+1) hi Zo (Sub.of [] rfl ?_ ?_ Zd ?_)
   ·simp only[go_sem];exact⟨vint Zo,vint Zo⟩
   ·simp only[go_sem]
   intro b hb hw;match b,hb with
   |0,_=>rfl
  obtain rfl:i=s.a.length:=Zo;simp(disch:=try exact Zq)only[go_sem];refine AXa.go mixed (zf zb5 zh) (zg) Zk ?_;simp(disch:=try exact Zq)only[go_sem];have e9:zF x s s.a.length=zb8 x s:=by unfold zF zb8;rw[Ym]
  rw[e9];refine⟨[(4,.int .i64 (zb8 x s:Nat))],Sub.of [] rfl Zg Zg Zd ?_,by simp only[go_sem]⟩;intro b hb hw;match b,hb with
  |0,_=>rfl
 have e0:zF x s 0=1+widI x.ar+(if s.f=[]then 0 else widI ((x.wt:Int)-1)):=by simp[zF]
 rw[Yi hf]at e0;simp(disch:=try exact Zq)only[go_sem,zN];refine AXs.loop mixed (zf zb5 zh) (zg) (ι:=Nat) (fun i=>[(24,.int .i64 i),(23,.int .i64 s.a.length),(22,.fs (arcs s.a) s.a.length),(5,.int .i64 (zF x s i:Nat)),(3,.ptr 2 0),(2,.ptr 1 0)]) (fun _=>⟨[(2,.cells [.str s.f,.fs (arcs s.a) s.a.length]),(1,.cells [.int .i64 x.nm,.int .i64 x.wt,.int .i64 x.st,.int .i64 x.ar,.map 0]),(0,mpB m)],3⟩) (fun i=>i≤s.a.length) (fun i=>s.a.length-i) 0 Zk (Yk _) (Sub.of [] rfl ?_ ?_ Zd ?_) ?_
 ·simp only[go_sem];exact vint Zo
 ·simp only[go_sem]
 ·intro b hb hw;match b,hb with
  |0,_=>rfl
 intro i hi0;have hle:=zdZ x s i hi0;simp(disch:=try exact Zq)only[go_sem];refine Xc (fun hc=>?_) (fun hc=>?_)
 ·have hi:i<s.a.length:=Zo;have at1:=zcA s.a i hi;have hsu:=zfp x s i hi;have hl1:=zdZ x s (i+1) hi;have eq1:((i+1:Nat):Int)=(i:Int)+1:=Zo;simp(disch:=try exact Zq)only[go_sem,zN,at1];refine⟨Zo,AXk.intro Zk ?_⟩;by_cases ha:(nthA s.a i).i=(nthA s.a i).o
  ·have d0:decide ((nthA s.a i).i=(nthA s.a i).o)=true:=Yf ha;rw[zgK,Yi ha]at hsu;simp(disch:=try exact Zq)only[go_sem,zN,at1,d0];refine zi (i+1) hi Zo (Sub.of [] rfl ?_ ?_ Zd ?_)
   ·simp only[go_sem];exact⟨vint Zo,vint Zo⟩
   ·simp only[go_sem]
   intro b hb hw;match b,hb with
   |0,_=>rfl
  have d0:decide ((nthA s.a i).i=(nthA s.a i).o)=false:=Yd ha;rw[zgK,Ye ha]at hsu;simp(disch:=try exact Zq)only[go_sem,zN,at1,d0];refine zi (i+1) hi Zo (Sub.of [] rfl ?_ ?_ Zd ?_)
  ·simp only[go_sem];exact⟨vint Zo,vint Zo⟩
  ·simp only[go_sem]
  intro b hb hw;match b,hb with
  |0,_=>rfl
 obtain rfl:i=s.a.length:=Zo;simp(disch:=try exact Zq)only[go_sem];refine AXa.go mixed (zf zb5 zh) (zg) Zk ?_;simp(disch:=try exact Zq)only[go_sem];have e9:zF x s s.a.length=zb8 x s:=by unfold zF zb8;rw[Ym]
 rw[e9];refine⟨[(4,.int .i64 (zb8 x s:Nat))],Sub.of [] rfl Zg Zg Zd ?_,by simp only[go_sem]⟩;intro b hb hw;match b,hb with
 |0,_=>rfl
end Go.Proofs

namespace Go.Proofs
open Tryz Go.Ab Go.Pl Go.Cnt
attribute [local go_sem] zbg zjA zbE zas
def zab(b c k:Nat)(l:ZL)(la fr:Nat)(n z:Int)(bs:ZH)(nx:Nat)(hb:zG bs b=some (.cells [.sl c 0 k 1 none,.int .i64 0,.int .i8 0,.int .u8 (la:Nat),.int .i64 (fr:Nat)]))(hc:zG bs c=some (bly l))(hk':k=l.length)(h:okW (l,la,fr))(hl:l.length≤90000000)(hn:0≤n∧n<1000000000)(hz:0≤z∧z≤60)(hk:((keysB bs).all fun b=>decide (b<nx))=true):Δw2 28 [.ptr b 0,.int .i64 n,.int .i64 z] ⟨bs,nx⟩=some ⟨True,.tup [],(((⟨bs,nx⟩:Hp).put b (.cells [.sl nx 0 (numW z.toNat n.toNat (l,la,fr)).1.length 1 none,.int .i64 0,.int .i8 0,.int .u8 ((numW z.toNat n.toNat (l,la,fr)).2.1:Nat),.int .i64 ((numW z.toNat n.toNat (l,la,fr)).2.2:Nat)])).kill c).new (bly (numW z.toNat n.toNat (l,la,fr)).1),[b,c],[b,c]⟩:=by obtain⟨m,rfl⟩:∃m:Nat,n=m:=⟨n.toNat,Zo⟩;obtain⟨q,rfl⟩:∃m:Nat,z=m:=⟨z.toNat,Zo⟩;exact zoV b c k l la fr m q bs nx hb hc hk' h hl Zo Zo hk
def zV(b c k:Nat)(l:ZL)(la fr:Nat)(x:Bool)(bs:ZH)(nx:Nat)(hb:zG bs b=some (.cells [.sl c 0 k 1 none,.int .i64 0,.int .i8 0,.int .u8 (la:Nat),.int .i64 (fr:Nat)]))(hc:zG bs c=some (bly l))(hk':k=l.length)(h:okW (l,la,fr))(hl:l.length≤90000000)(hk:((keysB bs).all fun b=>decide (b<nx))=true):Δw2 64 [.ptr b 0,.bool x] ⟨bs,nx⟩=some ⟨True,.tup [],(((⟨bs,nx⟩:Hp).put b (.cells [.sl nx 0 (numW 1 (b2n x) (l,la,fr)).1.length 1 none,.int .i64 0,.int .i8 0,.int .u8 ((numW 1 (b2n x) (l,la,fr)).2.1:Nat),.int .i64 ((numW 1 (b2n x) (l,la,fr)).2.2:Nat)])).kill c).new (bly (numW 1 (b2n x) (l,la,fr)).1),[b,c],[b,c]⟩:=
 zqQ (st:=zpn) (s':=((numW 1 (b2n x) (l,la,fr)).1,((numW 1 (b2n x) (l,la,fr)).2.1:Int),((numW 1 (b2n x) (l,la,fr)).2.2:Int))) hb hc hk' h.2.2.2 (Yi ⟨Int.natCast_nonneg _,Int.natCast_nonneg _,h,hl⟩) hk
theorem zaV(s:WS):(s.1,s.2.1,s.2.2)=s:=rfl
def zvt:zrL prog 50=true:=Zk
def zvu(l:Ens)(b:Nat)(x:Str)(H:Hp)(orig:Option XR):luS true (some (mpB l)) b x H orig=some ⟨.int .i64 (valS l x),H,[b],[]⟩:=luS_mp l l.length b x orig
attribute [local go_sem] zvt zvu
def numL(L:List (Nat×Nat))(s:WS):WS:=L.foldl (fun s p=>numW p.2 p.1 s) s
theorem zu8(p:Nat×Nat)(L:List (Nat×Nat))(s:WS):numL (p::L) s=numL L (numW p.2 p.1 s):=rfl
def zbJ(L M:List (Nat×Nat))(s:WS):numL (L++M) s=numL M (numL L s):=by simp[numL]
def zbp(L:List (Nat×Nat)):Nat:=(L.map (·.2)).sum
def zg5:∀(L:List (Nat×Nat))(s:WS),okW s→okW (numL L s)∧(numL L s).1.length≤s.1.length+zbp L
 |[],s,h=>⟨h,by simp[numL,zbp]⟩
 |p::L,s,h=>by obtain⟨h1,h2⟩:=zav p.2 p.1 s h;obtain⟨h3,h4⟩:=zg5 L _ h1;refine⟨h3,?_⟩;rw[zu8];simp only[zbp,Y7,List.sum_cons]at h4 ⊢;omega
def arcP(x:Lay)(m:Ens)(a:Arc):List (Nat×Nat):=
 (b2n (decide (a.i=a.o)),1)::(a.i.toNat,widI x.nm)::((if a.i=a.o then []else [(a.o.toNat,widI x.nm)])++[((valS m a.w).toNat,widI ((x.wt:Int)-1)),(a.t.toNat,widI ((x.st:Int)-1))])
def staP(x:Lay)(m:Ens)(s:Sta):List (Nat×Nat):=
 (b2n (!decide (s.f=[])),1)::((if s.f=[]then []else [((valS m s.f).toNat,widI ((x.wt:Int)-1))])++((s.a.length,widI x.ar)::s.a.flatMap (arcP x m)))
def staQ(x:Lay)(m:Ens)(s:Sta)(i:Nat):List (Nat×Nat):=
 (b2n (!decide (s.f=[])),1)::((if s.f=[]then []else [((valS m s.f).toNat,widI ((x.wt:Int)-1))])++((s.a.length,widI x.ar)::(s.a.take i).flatMap (arcP x m)))
def zjq(x:Lay)(m:Ens)(s:Sta):staQ x m s s.a.length=staP x m s:=by unfold staQ staP;rw[Ym]
def zgI(x:Lay)(m:Ens)(s:Sta)(i:Nat)(h:i<s.a.length):staQ x m s (i+1)=staQ x m s i++arcP x m (nthA s.a i):=by unfold staQ;rw[show s.a.take (i+1)=s.a.take i++[nthA s.a i]from arcR.take_nth s.a i h,List.flatMap_append];simp
structure LayOK(x:Lay)(m:Ens):Prop where
 nm:x.nm≤1000000
 wt:x.wt≤1000000
 st:x.st≤1000000
 ar:x.ar≤1000000
 val:∀a,0≤valS m a∧valS m a<1000000
def LayOK.w {x:Lay}{m:Ens}(h:LayOK x m):widI x.nm≤20∧widI ((x.wt:Int)-1)≤20∧widI ((x.st:Int)-1)≤20∧widI x.ar≤20:=by
 have key:∀n:Int,n≤1000000→widI n≤20:=fun n hn=>by have:widI ((n.toNat:Nat):Int)≤20:=zi8 (k:=20) Zo Zd;unfold widI at this ⊢;rwa [Yq]at this
 have:=h.nm;have:=h.wt;have:=h.st;have:=h.ar;exact⟨key _ Zo,key _ Zo,key _ Zo,key _ Zo⟩
def zkI(a:Arc):Prop:=0≤a.i∧a.i≤1000000∧0≤a.o∧a.o≤1000000∧0≤a.t∧a.t≤1000000
def zyu {x:Lay}{m:Ens}(h:LayOK x m)(a:Arc):zbp (arcP x m a)≤100:=by obtain⟨h1,h2,h3,h4⟩:=h.w;unfold arcP zbp;split<;>simp<;>omega
def zeN {x:Lay}{m:Ens}(h:LayOK x m)(s:Sta):∀i,i≤s.a.length→zbp (staQ x m s i)≤100+100*i
 |0,_=>by obtain⟨h1,h2,h3,h4⟩:=h.w;unfold staQ zbp;split<;>simp<;>omega
 |i+1,hi=>by have ih:=zeN h s i Zo;have:=zyu h (nthA s.a i);rw[zgI x m s i Zo];unfold zbp at*;rw[Yax,List.sum_append];omega
def state_N(x:Lay)(s:Sta)(m:Ens)(l:ZL)(la fr:Nat)(hx:LayOK x m)(hs:s.a.length≤100000)(ha:∀a∈s.a,zkI a)(h0:okW (l,la,fr))(hl:l.length≤50000000):NCall prog 30 [layV x 2,.ptr 0 0,staV s] [wB 1 l.length la fr,bly l,mpB m] [0,1] (.tup []) ⟨[(0,wB 3 (numL (staP x m s) (l,la,fr)).1.length (numL (staP x m s) (l,la,fr)).2.1 (numL (staP x m s) (l,la,fr)).2.2),(2,mpB m),(3,bly (numL (staP x m s) (l,la,fr)).1)],4⟩:=by
 have hn:=hx.nm;have hwt:=hx.wt;have hst:=hx.st;have har:=hx.ar;obtain⟨w1,w2,w3,w4⟩:=hx.w;have hvf:=hx.val s.f;unfold layV staV wB;refine Xi (rs:=[]) [0,1,2,3,5,7,15,36,37,38,39,60] [] 3 [0,1] mixed (zf zb5 zh) (zeg) call30 func30 rfl ntmps30 rfl Zk Zs Zs Zs Zs ?_;obtain⟨k1,k1'⟩:=zav 1 (b2n (!decide (s.f=[]))) (l,la,fr) h0;dsimp only at k1';simp(disch:=try exact Zp)only[go_sem,zN,zV,zab,Yq,zaV];refine⟨rfl,Xl (fun hf=>?_) (fun hf=>?_)⟩
 ·obtain⟨k2,k2'⟩:=zav (widI ((x.wt:Int)-1)) (valS m s.f).toNat _ k1;obtain⟨k3,k3'⟩:=zav (widI x.ar) s.a.length _ k2;simp(disch:=try exact Zp)only[go_sem,zN,zV,zab,Yq,zaV];refine⟨rfl,AXk.intro Zk ?_⟩;simp(disch:=try exact Zp)only[go_sem,zN,zV,zab,Yq,zaV];refine⟨rfl,AXk.intro Zk ?_⟩;simp(disch:=try exact Zp)only[go_sem,zN,zV,zab,Yq,zaV];have e0:numL (staQ x m s 0) (l,la,fr)=numW (widI x.ar) s.a.length (numW (widI ((x.wt:Int)-1)) (valS m s.f).toNat (numW 1 (b2n (!decide (s.f=[]))) (l,la,fr))):=by unfold staQ;rw[Ye hf];rfl
  refine AXs.loop mixed (zf zb5 zh) (zeg) (ι:=Nat×WS) (fun i=>[(38,.int .i64 i.1),(37,.int .i64 s.a.length),(36,.fs (arcs s.a) s.a.length),(5,.ptr 4 0),(3,.ptr 3 0),(1,.ptr 0 0)])
   (fun i=>⟨[(5,bly i.2.1),(4,.cells [.str s.f,.fs (arcs s.a) s.a.length]),(3,.cells [.int .i64 x.nm,.int .i64 x.wt,.int .i64 x.st,.int .i64 x.ar,.map 2]),(0,.cells [.sl 5 0 i.2.1.length 1 none,.int .i64 0,.int .i8 0,.int .u8 (i.2.2.1:Nat),.int .i64 (i.2.2.2:Nat)]),(2,mpB m)],6⟩)
   (fun i=>i.1≤s.a.length∧i.2=numL (staQ x m s i.1) (l,la,fr)) (fun i=>s.a.length-i.1) (0,numL (staQ x m s 0) (l,la,fr)) Zk ⟨Yk _,rfl⟩ (Xg [(5,7)] rfl ?_ ?_ Zd (by
   intro b hb hw
   match b,hb with
   |0,_=>simp at hw
   |1,_=>simp at hw
   |2,_=>rfl)) ?_
  ·simp only[go_sem]
  ·rw[e0];simp only[go_sem]
  rintro⟨i,d,la',fr'⟩ ⟨g1,g2⟩;dsimp only at g1 g2;have gok:=zg5 (staQ x m s i) (l,la,fr) h0;have gbi:=zeN hx s i g1;rw[←g2]at gok;obtain⟨q0,q0'⟩:=gok;dsimp only at q0';simp(disch:=try exact Zq)only[go_sem];refine Xc (fun hc=>?_) (fun hc=>?_)
  ·have hi:i<s.a.length:=Zo;have at1:=zcA s.a i hi;have hsu:=zgI x m s i hi;have haa:zkI (nthA s.a i):=ha _ (arcR.nth_mem hi);obtain⟨a1,a2,a3,a4,a5,a6⟩:=haa;have hvw:=hx.val (nthA s.a i).w;have ei1:(i:Int)+1=((i+1:Nat):Int):=Zo;by_cases hio:(nthA s.a i).i=(nthA s.a i).o
   ·have d0:decide ((nthA s.a i).i=(nthA s.a i).o)=true:=Yf hio;obtain⟨p1,p1'⟩:=zav 1 (b2n true) _ q0;obtain⟨p2,p2'⟩:=zav (widI x.nm) (nthA s.a i).i.toNat _ p1;obtain⟨p3,p3'⟩:=zav (widI ((x.wt:Int)-1)) (valS m (nthA s.a i).w).toNat _ p2;obtain⟨p4,p4'⟩:=zav (widI ((x.st:Int)-1)) (nthA s.a i).t.toNat _ p3;dsimp only at p1' p2' p3' p4';simp(disch:=try exact Zp)only[go_sem,zN,zV,zab,Yq,zaV,at1,d0,ei1];refine⟨Zo,rfl,rfl,AXk.intro Zk ?_⟩;simp(disch:=try exact Zp)only[go_sem,zN,zV,zab,Yq,zaV,at1,d0,ei1];refine⟨rfl,AXk.intro Zk ?_⟩;simp(disch:=try exact Zp)only[go_sem,zN,zV,zab,Yq,zaV,at1,d0,ei1];refine⟨rfl,AXk.intro Zk ?_⟩;simp(disch:=try exact Zp)only[go_sem,zN,zV,zab,Yq,zaV,at1,d0,ei1];have hnx:numW (widI ((x.st:Int)-1)) (nthA s.a i).t.toNat (numW (widI ((x.wt:Int)-1)) (valS m (nthA s.a i).w).toNat (numW (widI x.nm) (nthA s.a i).i.toNat (numW 1 (b2n true) (d,la',fr'))))=numL (staQ x m s (i+1)) (l,la,fr):=by rw[hsu,zbJ,←g2];unfold arcP;rw[d0,Yi hio];rfl
    refine zi (i+1,numW (widI ((x.st:Int)-1)) (nthA s.a i).t.toNat (numW (widI ((x.wt:Int)-1)) (valS m (nthA s.a i).w).toNat (numW (widI x.nm) (nthA s.a i).i.toNat (numW 1 (b2n true) (d,la',fr'))))) ⟨hi,hnx⟩ (by show s.a.length-(i+1)<s.a.length-i;omega) (Xg [(5,10)] rfl Zg Zg Zd (by
     intro b hb hw;match b,hb with
     |0,_=>simp at hw
     |1,_=>simp at hw
     |2,_=>rfl))
   have d0:decide ((nthA s.a i).i=(nthA s.a i).o)=false:=Yd hio;obtain⟨p1,p1'⟩:=zav 1 (b2n false) _ q0;obtain⟨p2,p2'⟩:=zav (widI x.nm) (nthA s.a i).i.toNat _ p1;obtain⟨p3,p3'⟩:=zav (widI x.nm) (nthA s.a i).o.toNat _ p2;obtain⟨p4,p4'⟩:=zav (widI ((x.wt:Int)-1)) (valS m (nthA s.a i).w).toNat _ p3;obtain⟨p5,p5'⟩:=zav (widI ((x.st:Int)-1)) (nthA s.a i).t.toNat _ p4;dsimp only at p1' p2' p3' p4' p5';simp(disch:=try exact Zp)only[go_sem,zN,zV,zab,Yq,zaV,at1,d0,ei1];refine⟨Zo,rfl,rfl,AXk.intro Zk ?_⟩;simp(disch:=try exact Zp)only[go_sem,zN,zV,zab,Yq,zaV,at1,d0,ei1];refine⟨rfl,AXk.intro Zk ?_⟩;simp(disch:=try exact Zp)only[go_sem,zN,zV,zab,Yq,zaV,at1,d0,ei1];refine⟨rfl,AXk.intro Zk ?_⟩;simp(disch:=try exact Zp)only[go_sem,zN,zV,zab,Yq,zaV,at1,d0,ei1];refine⟨rfl,AXk.intro Zk ?_⟩;simp(disch:=try exact Zp)only[go_sem,zN,zV,zab,Yq,zaV,at1,d0,ei1];have hnx:numW (widI ((x.st:Int)-1)) (nthA s.a i).t.toNat (numW (widI ((x.wt:Int)-1)) (valS m (nthA s.a i).w).toNat (numW (widI x.nm) (nthA s.a i).o.toNat (numW (widI x.nm) (nthA s.a i).i.toNat (numW 1 (b2n false) (d,la',fr')))))=numL (staQ x m s (i+1)) (l,la,fr):=by rw[hsu,zbJ,←g2];unfold arcP;rw[d0,Ye hio];rfl
   refine zi (i+1,numW (widI ((x.st:Int)-1)) (nthA s.a i).t.toNat (numW (widI ((x.wt:Int)-1)) (valS m (nthA s.a i).w).toNat (numW (widI x.nm) (nthA s.a i).o.toNat (numW (widI x.nm) (nthA s.a i).i.toNat (numW 1 (b2n false) (d,la',fr')))))) ⟨hi,hnx⟩ (by show s.a.length-(i+1)<s.a.length-i;omega) (Xg [(5,11)] rfl Zg Zg Zd (by
    intro b hb hw;match b,hb with
    |0,_=>simp at hw
    |1,_=>simp at hw
    |2,_=>rfl))
  obtain rfl:i=s.a.length:=Zo;rw[zjq]at g2;simp(disch:=try exact Zp)only[go_sem];rw[←g2];refine⟨[],Xg [(3,5)] rfl Zg Zg Zd (by
   intro b hb hw;match b,hb with
   |0,_=>simp at hw
   |1,_=>simp at hw
   |2,_=>rfl)⟩
 obtain⟨k2,k2'⟩:=zav (widI x.ar) s.a.length _ k1;simp(disch:=try exact Zp)only[go_sem,zN,zV,zab,Yq,zaV];refine⟨rfl,AXk.intro Zk ?_⟩;simp(disch:=try exact Zp)only[go_sem,zN,zV,zab,Yq,zaV];have e0:numL (staQ x m s 0) (l,la,fr)=numW (widI x.ar) s.a.length (numW 1 (b2n (!decide (s.f=[]))) (l,la,fr)):=by unfold staQ;rw[Yi hf];rfl
 refine AXs.loop mixed (zf zb5 zh) (zeg) (ι:=Nat×WS) (fun i=>[(38,.int .i64 i.1),(37,.int .i64 s.a.length),(36,.fs (arcs s.a) s.a.length),(5,.ptr 4 0),(3,.ptr 3 0),(1,.ptr 0 0)])
  (fun i=>⟨[(5,bly i.2.1),(4,.cells [.str s.f,.fs (arcs s.a) s.a.length]),(3,.cells [.int .i64 x.nm,.int .i64 x.wt,.int .i64 x.st,.int .i64 x.ar,.map 2]),(0,.cells [.sl 5 0 i.2.1.length 1 none,.int .i64 0,.int .i8 0,.int .u8 (i.2.2.1:Nat),.int .i64 (i.2.2.2:Nat)]),(2,mpB m)],6⟩)
  (fun i=>i.1≤s.a.length∧i.2=numL (staQ x m s i.1) (l,la,fr)) (fun i=>s.a.length-i.1) (0,numL (staQ x m s 0) (l,la,fr)) Zk ⟨Yk _,rfl⟩ (Xg [(5,6)] rfl ?_ ?_ Zd (by
  intro b hb hw
  match b,hb with
  |0,_=>simp at hw
  |1,_=>simp at hw
  |2,_=>rfl)) ?_
 ·simp only[go_sem]
 ·rw[e0];simp only[go_sem]
 rintro⟨i,d,la',fr'⟩ ⟨g1,g2⟩;dsimp only at g1 g2;have gok:=zg5 (staQ x m s i) (l,la,fr) h0;have gbi:=zeN hx s i g1;rw[←g2]at gok;obtain⟨q0,q0'⟩:=gok;dsimp only at q0';simp(disch:=try exact Zq)only[go_sem];refine Xc (fun hc=>?_) (fun hc=>?_)
 ·have hi:i<s.a.length:=Zo;have at1:=zcA s.a i hi;have hsu:=zgI x m s i hi;have haa:zkI (nthA s.a i):=ha _ (arcR.nth_mem hi);obtain⟨a1,a2,a3,a4,a5,a6⟩:=haa;have hvw:=hx.val (nthA s.a i).w;have ei1:(i:Int)+1=((i+1:Nat):Int):=Zo;by_cases hio:(nthA s.a i).i=(nthA s.a i).o
  ·have d0:decide ((nthA s.a i).i=(nthA s.a i).o)=true:=Yf hio;obtain⟨p1,p1'⟩:=zav 1 (b2n true) _ q0;obtain⟨p2,p2'⟩:=zav (widI x.nm) (nthA s.a i).i.toNat _ p1;obtain⟨p3,p3'⟩:=zav (widI ((x.wt:Int)-1)) (valS m (nthA s.a i).w).toNat _ p2;obtain⟨p4,p4'⟩:=zav (widI ((x.st:Int)-1)) (nthA s.a i).t.toNat _ p3;dsimp only at p1' p2' p3' p4';simp(disch:=try exact Zp)only[go_sem,zN,zV,zab,Yq,zaV,at1,d0,ei1];refine⟨Zo,rfl,rfl,AXk.intro Zk ?_⟩;simp(disch:=try exact Zp)only[go_sem,zN,zV,zab,Yq,zaV,at1,d0,ei1];refine⟨rfl,AXk.intro Zk ?_⟩;simp(disch:=try exact Zp)only[go_sem,zN,zV,zab,Yq,zaV,at1,d0,ei1];refine⟨rfl,AXk.intro Zk ?_⟩;simp(disch:=try exact Zp)only[go_sem,zN,zV,zab,Yq,zaV,at1,d0,ei1];have hnx:numW (widI ((x.st:Int)-1)) (nthA s.a i).t.toNat (numW (widI ((x.wt:Int)-1)) (valS m (nthA s.a i).w).toNat (numW (widI x.nm) (nthA s.a i).i.toNat (numW 1 (b2n true) (d,la',fr'))))=numL (staQ x m s (i+1)) (l,la,fr):=by rw[hsu,zbJ,←g2];unfold arcP;rw[d0,Yi hio];rfl
   refine zi (i+1,numW (widI ((x.st:Int)-1)) (nthA s.a i).t.toNat (numW (widI ((x.wt:Int)-1)) (valS m (nthA s.a i).w).toNat (numW (widI x.nm) (nthA s.a i).i.toNat (numW 1 (b2n true) (d,la',fr'))))) ⟨hi,hnx⟩ (by show s.a.length-(i+1)<s.a.length-i;omega) (Xg [(5,10)] rfl Zg Zg Zd (by
    intro b hb hw;match b,hb with
    |0,_=>simp at hw
    |1,_=>simp at hw
    |2,_=>rfl))
  have d0:decide ((nthA s.a i).i=(nthA s.a i).o)=false:=Yd hio;obtain⟨p1,p1'⟩:=zav 1 (b2n false) _ q0;obtain⟨p2,p2'⟩:=zav (widI x.nm) (nthA s.a i).i.toNat _ p1;obtain⟨p3,p3'⟩:=zav (widI x.nm) (nthA s.a i).o.toNat _ p2;obtain⟨p4,p4'⟩:=zav (widI ((x.wt:Int)-1)) (valS m (nthA s.a i).w).toNat _ p3;obtain⟨p5,p5'⟩:=zav (widI ((x.st:Int)-1)) (nthA s.a i).t.toNat _ p4;dsimp only at p1' p2' p3' p4' p5';simp(disch:=try exact Zp)only[go_sem,zN,zV,zab,Yq,zaV,at1,d0,ei1];refine⟨Zo,rfl,rfl,AXk.intro Zk ?_⟩;simp(disch:=try exact Zp)only[go_sem,zN,zV,zab,Yq,zaV,at1,d0,ei1];refine⟨rfl,AXk.intro Zk ?_⟩;simp(disch:=try exact Zp)only[go_sem,zN,zV,zab,Yq,zaV,at1,d0,ei1];refine⟨rfl,AXk.intro Zk ?_⟩;simp(disch:=try exact Zp)only[go_sem,zN,zV,zab,Yq,zaV,at1,d0,ei1];refine⟨rfl,AXk.intro Zk ?_⟩;simp(disch:=try exact Zp)only[go_sem,zN,zV,zab,Yq,zaV,at1,d0,ei1];have hnx:numW (widI ((x.st:Int)-1)) (nthA s.a i).t.toNat (numW (widI ((x.wt:Int)-1)) (valS m (nthA s.a i).w).toNat (numW (widI x.nm) (nthA s.a i).o.toNat (numW (widI x.nm) (nthA s.a i).i.toNat (numW 1 (b2n false) (d,la',fr')))))=numL (staQ x m s (i+1)) (l,la,fr):=by rw[hsu,zbJ,←g2];unfold arcP;rw[d0,Ye hio];rfl
  refine zi (i+1,numW (widI ((x.st:Int)-1)) (nthA s.a i).t.toNat (numW (widI ((x.wt:Int)-1)) (valS m (nthA s.a i).w).toNat (numW (widI x.nm) (nthA s.a i).o.toNat (numW (widI x.nm) (nthA s.a i).i.toNat (numW 1 (b2n false) (d,la',fr')))))) ⟨hi,hnx⟩ (by show s.a.length-(i+1)<s.a.length-i;omega) (Xg [(5,11)] rfl Zg Zg Zd (by
   intro b hb hw;match b,hb with
   |0,_=>simp at hw
   |1,_=>simp at hw
   |2,_=>rfl))
 obtain rfl:i=s.a.length:=Zo;rw[zjq]at g2;simp(disch:=try exact Zp)only[go_sem];rw[←g2];refine⟨[],Xg [(3,5)] rfl Zg Zg Zd (by
  intro b hb hw;match b,hb with
  |0,_=>simp at hw
  |1,_=>simp at hw
  |2,_=>rfl)⟩
end Go.Proofs
