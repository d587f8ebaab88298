/- A contract out of a run of the machine: scalar results. -/
import Derived.Test.YtbdlfegfepggnaaGreatDoorAbEvFn
import Derived.Tactics
import Derived.Tactics2
import Derived.Defers
import Derived.Recover
import Derived.Laws.Pointers
import Derived.KernelRfl
import Derived.Laws.Externs
import Derived.Lib.Builder
set_option linter.all false
set_option maxHeartbeats 16000000
set_option maxRecDepth 100000
noncomputable section
namespace Go.Ab
variable {P:Program}
def PCall.ofH {f:FuncId}{args:ZA}{r:AR}(h:HCall P f args ⟨[],0⟩ r)(hp:r.pre)(_hR:r.R=[])(hW:r.W=[])(hs:zaz r.v=true)(hpure:∀x∈args,Pure x):PCall P f args (.ret r.v):=by
 obtain⟨_,hrun⟩:=h;intro g w vs hgl hfrz hvs hpw;let g0:G:=⟨fun _=>none,g.phi⟩
 have hinv:Inv g0 w.heap.size ⟨[],0⟩ (fun _=>True) w:=
  ⟨hfrz,fun b T e=>(by cases e),fun b x e=>(by cases e),fun b x _ e=>(by cases e),fun b b' x x' T T' _ _ e=>(by cases e),Yc _⟩
 have hpw0:PW g0 args (fun i=>vs[i]?):=fun i x hx=>by obtain⟨u,hu,ru⟩:=hpw i x hx;exact⟨u,hu,VRel.pure (g:=g) (g':=g0) (fun c a e=>e) ru (hpure x (Y0 hx))⟩
 refine(hrun hp g0 w.heap.size (fun _=>True) w vs (hgl.mono (fun c a e=>e)) hinv hvs hpw0 (fun _ _=>trivial)).mono fun e w' q=>?_;obtain⟨g',vc,rfl,hv,p⟩:=q;refine⟨fun _=>none,vc,fun c a e=>(by cases e),⟨p.os,p.tape,p.output,p.size,fun k hk=>p.frame k hk fun b hb=>by rw[hW]at hb;cases hb⟩,rfl,zeD hs hv⟩
def eAns(E:ECfg)(P:Program)(n:Nat)(f:FuncId)(args:ZA):Option V:=
 match eFn E P n f args ⟨[],0⟩with
 |some r=>bif zaz r.v&&r.R.isEmpty&&r.W.isEmpty then some r.v else none
 |none=>none
def zy2 {E:ECfg}(hm:P.follows .mixedOrders=true)(hΓ:∀f args r,E.Γ f args=some r→PCall P f args r)(hcan:∀f,E.can f=true→zk P f)(hsp:zl6 P E) {n:Nat} {f:FuncId} {args:ZA} {v:V} (hpure:∀x∈args,Pure x) (h:eAns E P n f args=some v):PCall P f args (.ret v):=by
 unfold eAns at h;split at h;rotate_left;·cases h
 rename_i r hr;cases hs:(zaz r.v&&r.R.isEmpty&&r.W.isEmpty)with
 |false=>rw[hs]at h;cases h
 |true=>rw[hs]at h;cases h;simp only[Yg,List.isEmpty_iff]at hs;obtain⟨h1,h2⟩:=zy1 hm hΓ hcan hsp n f args _ r hr;exact PCall.ofH h2 h1 hs.1.2 hs.2 hs.1.1 hpure
def noSpec:(FuncId→ZA→Hp→Option AR)→FuncId→ZA→Hp→Option AR:=fun _ _ _ _=>none
def zhT {E:ECfg}(h:E.spec=noSpec):zl6 P E:=fun rec _ f args H r e=>by rw[h]at e;cases e
def canB(P:Program)(f:FuncId):Bool:=
 match P.funcs[f]? with
 |some fn=>fn.body.isSome&& !(fn.name== "runtime.NumGoroutine")
 |none=>false
def canB_ok {f:FuncId}(h:canB P f=true):zk P f:=by
 unfold canB at h;split at h;rotate_left;·cases h
 rename_i fn hf;simp only[Yg,Yam,Yca,ne_eq]at h;obtain⟨hb,hn⟩:=h;intro a w;cases hbb:fn.body with
 |none=>rw[hbb]at hb;cases hb
 |some c=>simp[callFunc,hf,hn,hbb]
end Go.Ab

namespace Go.Proofs
open Go.Ab
def zop {P:Program}{f:FuncId}{vs:Array Value}{w:World}{R:Ending→World→Prop}(hc:zk P f)(h:GoCall P f vs w R):Calls P f vs w R:=by
 rcases h with⟨_,h⟩|⟨v,w',h1,_⟩
 ·exact h
 rw[hc vs w]at h1;cases h1
end Go.Proofs

namespace Go.Proofs
open Go.Ab Go.Pl
def cR3Cmp:ZV:=zC (fun p:ZL×ZL=>[.str p.1,.str p.2]) (fun p=>p.1.length≤1000000000∧p.2.length≤1000000000) (fun p=>.ret (.int .i64 (zbe p.1 p.2)))
def zzZ:∀args r,cR3Cmp args=some r→PCall Tryz.prog 103 args r:=zn fun p h=>r3Cmp_ok p.1 p.2 h.1 h.2
@[go_sem]def cR3Cmp_eq(a b:ZL)(la:a.length≤1000000000)(lb:b.length≤1000000000):cR3Cmp [.str a,.str b]=some (.ret (.int .i64 (zbe a b))):=zo (fun p q h=>by simp at h;exact Yai h.1 h.2) (a,b) ⟨la,lb⟩
structure Two where
 p:Bool
 m:Nat
 d:Nat
 q:Bool
 n:Nat
 f:Nat
def Two.ok(x:Two):Prop:=(dec x.m).length≤400∧(dec x.d).length≤400∧0<x.d∧(dec x.n).length≤400∧(dec x.f).length≤400∧0<x.f
def Two.a(x:Two):ZA:=[.bool x.p,.str (dec x.m),.str (dec x.d)]
def Two.b(x:Two):ZA:=[.bool x.q,.str (dec x.n),.str (dec x.f)]
def Two.vs(x:Two):ZA:=[.agg x.a,.agg x.b]
def zo4 {a:ZL}(h1:(zD a).1=false)(h2:(zD a).2.2.2=false):(zD a).2.1=a:=by
 unfold zD at*;simp only at*;split at h1
 ·split at h2
  ·cases h2
  rename_i e1 _ e2;rw[e1]at e2;cases e2
 rename_i e1;simp only[e1];simp only at h1;rw[h1];rfl
def zw1 {b:ZL}{q:Bool}{f:Nat}(h:ratP b=some (q,0,f)):b=[48]:=by
 unfold ratP at h;split at h
 case isFalse=>cases h
 case isTrue hk=>
  simp only[YJ,Ybr]at h
  obtain⟨_,h1,_⟩:=h
  simp only[zb0,Yg,Yq]at hk
  obtain⟨⟨⟨⟨k1,k2⟩,k3⟩,k4⟩,k5⟩:=hk
  have e1:=zam (shortN_iff.1 k1).1
  have e2:=zam (shortN_iff.1 k2).1
  rw[h1]at e1 k5
  rw[Yck]at k5
  rw[k5]at e2
  have e3:(zD b).2.1=[48]:=e1.symm
  have e4:(zD b).2.2.1=[49]:=e2.symm
  rw[e3]at k3
  rw[e4]at k4
  have n1:(zD b).1=false:=by cases h:(zD b).1<;>simp_all
  have n2:(zD b).2.2.2=false:=by cases h:(zD b).2.2.2<;>simp_all
  rw[←zo4 n1 n2];exact e3
def decHead {n:Nat}:(dec n).getD 0 0≠45:=by
 have h:=zcO n;have hp:=zdR n;intro e;have hm:(dec n).getD 0 0∈dec n:=by rw[Ya,Yb hp];exact Y6 hp
 have:=zbG (Yo.1 h _ hm);rw[e]at this;revert this;decide
def decNo(n:Nat):∀x∈dec n,(x==47)=false:=fun x hx=>by
 have:=zbG (Yo.1 (zcO n) x hx);cases e:x==47 with
 |false=>rfl
 |true=>
  have:x=47:=by simpa using e
  subst this;revert this;decide
def ziS(neg:Bool)(n d:Nat)(hn:neg=true→n≠0):zD (ratT neg n d)=(neg,dec n,if d=1 then [49]else dec d,decide (d≠1)):=by
 have hr:∀(y:ZL),(if neg=true∧n≠0 then [45]else [])++y=if neg=true then 45::y else y:=fun y=>by
  cases neg with
  |true=>rw[Yi ⟨rfl,hn rfl⟩,Yi rfl];rfl
  |false=>rw[Yh Zs,Yh Zs];rfl
 have ht:ratT neg n d=if neg=true then 45::(dec n++(if d=1 then []else 47::dec d))else dec n++(if d=1 then []else 47::dec d):=by unfold ratT;rw[YR,hr]
 have h0:(dec n++(if d=1 then []else 47::dec d)).getD 0 0=(dec n).getD 0 0:=by rw[Ya,YQ (zdR n),Ya]
 have hneg:decide ((ratT neg n d).getD 0 0=45)=neg:=by
  rw[ht];cases neg with
  |true=>rw[Yi rfl];rfl
  |false=>rw[Yh Zs,h0];exact Ye decHead
 have hrest:(if neg=true then(ratT neg n d).drop 1 else ratT neg n d)=dec n++(if d=1 then []else 47::dec d):=by
  rw[ht];cases neg with
  |true=>rw[Yi rfl,Yi rfl];rfl
  |false=>rw[Yh Zs,Yh Zs]
 have hfn:∀l:ZL,(∀x∈l,(x==47)=false)→∀r,(l++47::r).findIdx? (· ==47)=some l.length:=by
  intro l;induction l with
  |nil=>intro _ r;simp[YbF]
  |cons x l ih=>intro h r;rw[Ya4,YbF];simp only[h x (YA ..),YS,if_false,ih (fun y hy=>h y (YD _ hy)) r];rfl
 unfold zD;simp only[hneg,hrest];by_cases hd:d=1
 ·have:(dec n++(if d=1 then []else 47::dec d)).findIdx? (· ==47)=none:=by rw[Yi hd,Y7,List.findIdx?_eq_none_iff];exact decNo n
  simp only[this];rw[Yi hd,Yi hd,Y7];simp[hd]
 have:(dec n++(if d=1 then []else 47::dec d)).findIdx? (· ==47)=some (dec n).length:=by rw[Yh hd];exact hfn _ (decNo n) _
 simp only[this];rw[Yh hd,Yh hd,List.take_left];simp[hd]
def zf4 {n:Nat}(h:(dec n).length≤400):zaB (dec n)=true:=by rw[shortN_iff,zfX];exact⟨by simp;omega,h⟩
def zmI {neg:Bool}{n d:Nat}(hn:neg=true→n≠0)(hd:0<d)(hg:Nat.gcd n d=1)(ln:(dec n).length≤400)(ld:(dec d).length≤400):ratP (ratT neg n d)=some (neg,n,d):=by
 unfold ratP;rw[ziS neg n d hn];have hv:valD (if d=1 then [49]else dec d)=d:=by
  split
  ·rename_i h;rw[h];rfl
  exact zan d
 have h1:dec 1=[49]:=rfl;have hs:zaB (if d=1 then [49]else dec d)=true:=by
  split
  ·rw[←h1];exact zf4 Zd
  exact zf4 ld
 have hok:zb0 neg (dec n) (if d=1 then [49]else dec d) (decide (d≠1))=true:=by
  unfold zb0;rw[zf4 ln,hs,hv,zan];have h2:(neg&&decide (dec n=[48]))=false:=by
   cases hneg:neg with
   |false=>rfl
   |true=>have:=hn hneg;simp only[YaA,Yay];intro e;exact this (dec_is_zero.1 e)
  have h3:(decide (d≠1)&&(decide ((if d=1 then [49]else dec d)=[48])||decide ((if d=1 then [49]else dec d)=[49])))=false:=by
   by_cases h:d=1
   ·simp[h]
   rw[Yh h];have e1:¬dec d=[48]:=fun e=>by have:=dec_is_zero.1 e;omega
   have e2:¬dec d=[49]:=fun e=>h (zav (e.trans h1.symm));simp[e1,e2]
  rw[h2,h3];simp only[YaA,Bool.not_false,YaC,Yq];exact hg
 rw[Yi hok];simp only[zan,hv]
def zhF {n:Nat}(h:(dec n).length≤400):ratP (dec n)=some (false,n,1):=by
 have:=zmI (neg:=false) (n:=n) (d:=1) (fun h=>by cases h) Zo (Ycl n) h Zd;have e:ratT false n 1=dec n:=by unfold ratT;simp
 rwa [e]at this
def mkV_read(m:Nat)(d:Nat)(hd:0<d):((resP (mkV false m d)).2≠0→(resP (mkV false m d)).2=2)∧((resP (mkV false m d)).2=0→ratP (resP (mkV false m d)).1=some (false,m/Nat.gcd m d,d/Nat.gcd m d)∧0<d/Nat.gcd m d):=by
 unfold mkV;split
 ·rw[resP_err];exact⟨fun _=>rfl,fun h=>by cases h⟩
 rename_i h;rw[resP_tup];have h':¬(400<(dec (m/Nat.gcd m d)).length∨400<(dec (d/Nat.gcd m d)).length):=by simpa[longN]using h
 have hg:0<Nat.gcd m d:=Nat.gcd_pos_of_pos_right m hd;have hdg:0<d/Nat.gcd m d:=Nat.div_pos (YcG hd (Nat.gcd_dvd_right m d)) hg;refine⟨fun h=>absurd rfl h,fun _=>⟨?_,hdg⟩⟩;exact zmI (fun h=>by cases h) hdg (Nat.coprime_div_gcd_div_gcd hg) Zo Zo
theorem sumS_pos(a b:Nat):sumS false a false b=(false,a+b):=rfl
def ratP_0:ratP [48]=some (false,0,1):=by have:=zhF (n:=0) Zd;rwa [zrW]at this
end Go.Proofs

namespace Go.Proofs
open Go.Ab Go.Cnt Go.Pl
def p01(p:Str):Bool:=(ratP p).isSome&&decide (0≤zbe p [48])&&decide (zbe p [49]≤0)
def Is(a:Str)(x y:Nat):Prop:=0<y∧∃n d,ratP a=some (false,n,d)∧n*y=x*d
def mulr {a b c:Nat}(hc:0<c)(h:a*c=b*c):a=b:=Nat.eq_of_mul_eq_mul_right hc h
def Is.eq {a:Str}{x y u v:Nat}(h:Is a x y)(hv:0<v)(e:x*v=u*y):Is a u v:=by
 obtain⟨hy,n,d,hr,he⟩:=h;refine⟨hv,n,d,hr,mulr hy ?_⟩;calc n*v*y=n*y*v:=by ac_rfl
  _=x*v*d:=by rw[he];ac_rfl
  _=u*d*y:=by rw[e];ac_rfl
def Is.zero {a:Str}{y:Nat}(h:Is a 0 y):a=[48]:=by
 obtain⟨hy,n,d,hr,he⟩:=h;have:n=0:=by
  rcases Nat.mul_eq_zero.1 (he.trans (Ybe d))with h|h
  ·exact h
  omega
 subst this;exact zw1 hr
def Is.pos {a:Str}{x y:Nat}(h:Is a x y)(hx:0<x):a≠[48]:=by rintro rfl;obtain⟨hy,n,d,hr,he⟩:=h;have e:some (false,0,1)=some (false,n,d):=ratP_0.symm.trans hr;simp only[YJ,Ybr,Yaf]at e;rw[←e.1,←e.2]at he;omega
def Is.dec {n:Nat}(h:(dec n).length≤400):Is (dec n) n 1:=⟨Zo,n,1,zhF h,rfl⟩
def mkV_is {m d:Nat}(hd:0<d)(h:(resP (mkV false m d)).2=0):Is (resP (mkV false m d)).1 m d:=by obtain⟨h1,h2⟩:=(mkV_read m d hd).2 h;have g1:m/Nat.gcd m d*Nat.gcd m d=m:=Nat.div_mul_cancel (Nat.gcd_dvd_left m d);have g2:d/Nat.gcd m d*Nat.gcd m d=d:=Nat.div_mul_cancel (Nat.gcd_dvd_right m d);refine⟨hd,_,_,h1,?_⟩;generalize m/Nat.gcd m d=p at*;generalize d/Nat.gcd m d=q at*;generalize Nat.gcd m d=g at*;subst g1 g2;ac_rfl
def Is.add {a b:Str}{x y u v:Nat}(ha:Is a x y)(hb:Is b u v)(h:(resP (zhH a b)).2=0):Is (resP (zhH a b)).1 (x*v+u*y) (y*v):=by
 obtain⟨hy,m,d,hr,he⟩:=ha;obtain⟨hv,n,f,hs,hf⟩:=hb;have hd:=(zbm hr).1;have hff:=(zbm hs).1;rw[zw5 hr hs,sumS_pos]at h ⊢;refine(mkV_is (Yb5 hd hff) h).eq (Yb5 hy hv) ?_;show (m*f+n*d)*(y*v)=(x*v+u*y)*(d*f);rw[Yal,Yal];congr 1
 ·calc m*f*(y*v)=m*y*(f*v):=by ac_rfl
   _=x*v*(d*f):=by rw[he];ac_rfl
 calc n*d*(y*v)=n*v*(d*y):=by ac_rfl
  _=u*y*(d*f):=by rw[hf];ac_rfl
def Is.mul {a b:Str}{x y u v:Nat}(ha:Is a x y)(hb:Is b u v)(h:(resP (zhG a b)).2=0):Is (resP (zhG a b)).1 (x*u) (y*v):=by
 obtain⟨hy,m,d,hr,he⟩:=ha;obtain⟨hv,n,f,hs,hf⟩:=hb;have hd:=(zbm hr).1;have hff:=(zbm hs).1;rw[zw3 hr hs]at h ⊢;refine(mkV_is (Yb5 hd hff) h).eq (Yb5 hy hv) ?_;calc m*n*(y*v)=(m*y)*(n*v):=by ac_rfl
  _=x*u*(d*f):=by rw[he,hf];ac_rfl
def Is.one {a:Str}{y:Nat}(h:Is a y y):∃d,ratP a=some (false,d,d):=by
 obtain⟨hy,n,d,hr,he⟩:=h;have:n=d:=by rw[Yav y d]at he;exact mulr hy he
 subst this;exact⟨_,hr⟩
def Is.p01 {a:Str}{x y:Nat}(h:Is a x y)(hxy:x≤y):p01 a=true:=by
 obtain⟨hy,n,d,hr,he⟩:=h;have hd:=(zbm hr).1;have hnd:n≤d:=by
  have h1:n*y≤d*y:=by rw[he,Yav d y];exact YO d hxy
  exact Nat.le_of_mul_le_mul_right h1 hy
 have e1:ratP [49]=some (false,1,1):=zhF (n:=1) Zd;have c0:0≤zbe a [48]:=by
  rw[zfu hr ratP_0];have:sumS false (n*1) (!false) (0*d)=(false,n):=by simp[sumS]
  rw[this];split
  ·exact Yb1 _
  rw[Yh Zs];decide
 have c1:zbe a [49]≤0:=by
  rw[zfu hr e1];have:sumS false (n*1) (!false) (1*d)=if d≤n then(false,n-d)else(true,d-n):=by simp[sumS]
  rw[this];by_cases hdn:d≤n
  ·rw[Yi hdn,Yi (show n-d=0 by omega)];exact Yb1 _
  rw[Yh hdn,Yh (show ¬d-n=0 by omega),Yi rfl];decide
 unfold Go.Proofs.p01;rw[hr,Yf c0,Yf c1];rfl
def pmul(a b:Str):Str×Int:=resP (zhG a b)
def padd(a b:Str):Str×Int:=resP (zhH a b)
def zw2 {a:Str}{s:Bool}{n d:Nat}(h:ratP a=some (s,n,d)):a=(if s then [45]else [])++dec n++(if d=1 then []else 47::dec d):=by
 unfold ratP at h;split at h
 case isFalse=>cases h
 case isTrue hk=>
  simp only[YJ,Ybr]at h
  obtain⟨h1,h2,h3⟩:=h
  simp only[zb0,Yg,Yq]at hk
  obtain⟨⟨⟨⟨k1,k2⟩,k3⟩,k4⟩,k5⟩:=hk
  have e1:=zam (shortN_iff.1 k1).1
  have e2:=zam (shortN_iff.1 k2).1
  rw[h2]at e1
  rw[h3]at e2
  rw[e1]
  have e3:(if d=1 then []else 47::dec d)=if (zD a).2.2.2=true then 47::(zD a).2.2.1 else []:=by
   rcases zhE a with hf|hf
   ·rw[Yi hf];rw[hf]at k4;have hd:d≠1:=by rintro rfl;rw[←e2]at k4;simp at k4;exact k4.2 rfl
    rw[Yh hd,e2]
   by_cases hfr:(zD a).2.2.2=true
   ·rw[hfr,hf]at k4;simp at k4
   rw[Yh hfr];have hd:d=1:=by rw[←h3,hf];rfl
   rw[Yi hd]
  rw[e3,←h1]
  clear e1 e2 e3 h1 h2 h3 k1 k2 k3 k4 k5
  unfold zD
  simp only
  have hn:decide (a.getD 0 0=45)=true→a=45::a.drop 1:=fun h=>by
   cases a with
   |nil=>revert h;decide
   |cons c l=>simp at h;simp[h]
  generalize hng:decide (a.getD 0 0=45)=neg at hn ⊢
  have hr:a=(if neg then [45]else [])++(if neg=true then a.drop 1 else a):=by
   cases neg with
   |false=>rfl
   |true=>exact hn rfl
  have hh:∀(r:Str)(x:Option Nat),r.findIdx? (· ==47)=x→a=(if neg then [45]else [])++r→a=(if (match x with|some i=>(neg,r.take i,r.drop (i+1),true)|none=>(neg,r,[49],false)).1=true then [45]else [])++(match x with|some i=>(neg,r.take i,r.drop (i+1),true)|none=>(neg,r,[49],false)).2.1++
   (if (match x with|some i=>(neg,r.take i,r.drop (i+1),true)|none=>(neg,r,[49],false)).2.2.2=true then 47::(match x with|some i=>(neg,r.take i,r.drop (i+1),true)|none=>(neg,r,[49],false)).2.2.1 else []):=by
   intro r x hx hr
   cases x with
   |none=>simp only[Y7,YS,if_false];exact hr
   |some i=>
    simp only[if_true]
    rw[Ya1]at hx
    obtain⟨hi,h47,_⟩:=hx
    have h47':r[i]=47:=by simpa using h47
    have:r=r.take i++47::r.drop (i+1):=by conv=>lhs;rw[←Yae i r,Yas hi,h47']
    rw[YR,←this];exact hr
  exact hh _ _ rfl hr
def Is.z {a:Str}{x y:Nat}(h:Is a x y):a=[48]↔x=0:=by
 constructor
 ·intro e;rcases YT x with h0|h0
  ·exact h0
  exact absurd e (h.pos h0)
 rintro rfl;exact h.zero
def Is.low {a:Str}{x y:Nat}(h:Is a x y):∃n d,ratP a=some (false,n,d)∧0<d∧n≤x∧d≤y:=by
 obtain⟨hy,n,d,hr,he⟩:=h;obtain⟨hd,hg,_⟩:=zbm hr;refine⟨n,d,hr,hd,?_,?_⟩
 ·rcases YT x with h0|h0
  ·subst h0;rw[Ybe]at he;rcases Nat.mul_eq_zero.1 he with h|h
   ·omega
   omega
  have:n ∣ x*d:=⟨y,he.symm⟩;exact YcG h0 (Nat.Coprime.dvd_of_dvd_mul_right hg this)
 have:d ∣ n*y:=⟨x,by rw[he];exact Yav _ _⟩;exact YcG hy ((Nat.Coprime.symm hg).dvd_of_dvd_mul_left this)
def cmp_is {a b:Str}{x u y:Nat}(ha:Is a x y)(hb:Is b u y):zbe a b=if x=u then 0 else if x<u then -1 else 1:=by
 obtain⟨hy,m,d,hr,he⟩:=ha;obtain⟨_,n,f,hs,hf⟩:=hb;obtain⟨hd,_⟩:=zbm hr;obtain⟨hf0,_⟩:=zbm hs;rw[zfu hr hs];have e1:m*f*y=x*(d*f):=by
  calc m*f*y=m*y*f:=by ac_rfl
   _=x*(d*f):=by rw[he];ac_rfl
 have e2:n*d*y=u*(d*f):=by
  calc n*d*y=n*y*d:=by ac_rfl
   _=u*(d*f):=by rw[hf];ac_rfl
 have hdf:0<d*f:=Yb5 hd hf0;have s1:(sumS false (m*f) (!false) (n*d))=if n*d≤m*f then(false,m*f-n*d)else(true,n*d-m*f):=by simp[sumS]
 rw[s1];have lt_iff:m*f<n*d↔x<u:=by
  constructor
  ·intro h;have:=YbB h hy;rw[e1,e2]at this;exact YaU this
  intro h;have:=YbB h hdf;rw[←e1,←e2]at this;exact YaU this
 have eq_iff:m*f=n*d↔x=u:=by
  constructor
  ·intro h;rw[h]at e1;exact mulr hdf (e1.symm.trans e2)
  intro h;rw[h]at e1;exact mulr hy (e1.trans e2.symm)
 generalize m*f=A at*;generalize n*d=B at*;by_cases h:B≤A
 ·rw[Yi h];dsimp only;by_cases h':A=B
  ·rw[Yi Zo,Yi (eq_iff.1 h')]
  rw[Yh Zo,Yh Zs,Yh fun k=>h' (eq_iff.2 k),Yh fun k=>by have:=lt_iff.2 k;omega]
 rw[Yh h];dsimp only;rw[Yh Zo,Yi rfl,Yh fun k=>by have:=eq_iff.2 k;omega,Yi (lt_iff.1 Zo)]
def kn(f:Int)(r:Str×Int):Str×Int:=if r.2≠0 then([48],if f=0 then r.2 else f)else(r.1,f)
def tm(f:Int)(a b:Str):Str×Int:=kn f (pmul a b)
def ps(f:Int)(a b:Str):Str×Int:=kn f (padd a b)
structure Run where
 m:Mdl
 cs:ZN
 f:Int
end Go.Proofs

namespace Go.Proofs
open Go.Ab Go.Cnt
def Tryz.infoS:zh9 Tryz.prog 9=some (1,16,true):=Zk
attribute [go_sem] Tryz.infoS Int.sub_zero
end Go.Proofs

namespace Go.Proofs
open Go.Ab Go.Cnt Go.Pl
structure Fit(m:Mdl):Prop where
 tl:m.tags.length≤100000
 wl:m.words.length≤100000
 nl:m.next.length≤100000
 el:m.emit.length≤100000
 ts:∀s∈m.tags,s.length≤1000000000000000
 ws:∀s∈m.words,s.length≤1000000000000000
 nr:∀r∈m.next,r.length≤1000000
 er:∀r∈m.emit,r.length≤1000000
 ns:∀r∈m.next,∀s∈r,s.length≤1000000
 es:∀r∈m.emit,∀s∈r,s.length≤1000000
end Go.Proofs

namespace Go.Tg
def lexLt:ZN→ZN→Bool
 |[],[]=>false
 |[],_::_=>true
 |_::_,[]=>false
 |x::a,y::b=>decide (x<y)||(decide (x=y)&&lexLt a b)
abbrev Cand:=Nat×ZN
def better(x y:Cand):Cand:=if x.1<y.1∨(x.1=y.1∧y.1≠0∧lexLt y.2 x.2=true)then y else x
def stp(x:Cand)(w:Nat)(j:ZN):Cand:=if x.1*w=0 then(0,[])else(x.1*w,x.2++j)
structure Best(S:Nat→ZN→Prop)(x:Cand):Prop where
 z:x.1=0→x.2=[]
 i:x.1≠0→S x.1 x.2
 b:∀w L,S w L→w≤x.1∧(w=x.1→x.1≠0→lexLt L x.2=false)
section
variable(n:Nat)(a:Nat→Nat→Nat→Nat)(b:Nat→Nat)
def src(t:Nat):ZN:=if t=0 then [n]else List.range n
def fw:Nat→Nat→Cand
 |0,_=>(1,[])
 |t+1,j=>(src n t).foldl (fun v i=>better v (stp (fw t i) (a t i j) [j])) (0,[])
def fin(T:Nat):Cand:=(src n T).foldl (fun v i=>better v (stp (fw n a T i) (b i) [])) (0,[])
def lastOf(L:ZN)(k:Nat):Nat:=if k=0 then n else L.getD (k-1) 0
def pw(L:ZN):Nat→Nat
 |0=>1
 |k+1=>pw L k*a k (lastOf n L k) (L.getD k 0)
def wt(L:ZN)(T:Nat):Nat:=pw n a L T*b (lastOf n L T)
def LL:Nat→List ZN
 |0=>[[]]
 |t+1=>(LL t).flatMap fun l=>(List.range n).map fun j=>l++[j]
def LL_len:∀t,∀l∈LL n t,l.length=t
 |0,l,h=>by simp[LL]at h;simp[h]
 |t+1,l,h=>by simp only[LL,Ya5,Yab,Yb3]at h;obtain⟨l',h1,j,_,rfl⟩:=h;simp[LL_len t l' h1]
def LL_mem:∀t,∀l∈LL n t,∀x∈l,x<n
 |0,l,h,x,hx=>by simp[LL]at h;simp[h]at hx
 |t+1,l,h,x,hx=>by
  simp only[LL,Ya5,Yab,Yb3]at h;obtain⟨l',h1,j,hj,rfl⟩:=h;rcases Yar.1 hx with hx|hx
  ·exact LL_mem t l' h1 x hx
  rw[YW.1 hx];exact hj
def all(w:ZN→Nat)(l:List ZN):Cand:=l.foldl (fun m L=>if m.1<w L then(w L,L)else m) (0,[])
end
end Go.Tg

namespace Go.Proofs
open Go.Ab Go.Cnt Go.Pl Go.Tg
def nx(m:Mdl)(i j:Nat):Str:=(nthR m.next i).getD j []
def em(m:Mdl)(j c:Nat):Str:=(nthR m.emit j).getD c []
section
variable {β:Type}(st:Int→β→ZN→Str→β×Int)(pl:Int→β→β→β×Int)(m:Mdl)(none first:β)
end
structure Nums(m:Mdl)(cs:ZN)(N:Nat→Nat→Nat→Nat)(E:Nat→Nat→Nat)(b:Nat→Nat)(DN DE:Nat→Nat)(Df:Nat):Prop where
 n:∀t i j,t<cs.length→i∈src m.tags.length t→j<m.tags.length→Is (nx m i j) (N t i j) (DN t)∧N t i j≤DN t
 e:∀t j,t<cs.length→j<m.tags.length→Is (em m j (cs.getD t 0)) (E t j) (DE t)∧E t j≤DE t
 f:∀i,i∈src m.tags.length cs.length→Is (nx m i m.tags.length) (b i) Df∧b i≤Df
 pn:∀t,0<DN t
 pe:∀t,0<DE t
 pf:0<Df
section
variable {m:Mdl}{cs:ZN}{N:Nat→Nat→Nat→Nat}{E:Nat→Nat→Nat}{b:Nat→Nat}{DN DE:Nat→Nat}{Df:Nat}
end
end Go.Proofs

namespace Go.Proofs
open Go.Ab Go.Cnt Go.Pl Go.Tg
section
variable {m:Mdl}{cs:ZN}{N:Nat→Nat→Nat→Nat}{E:Nat→Nat→Nat}{b:Nat→Nat}{DN DE:Nat→Nat}{Df:Nat}
def getD_lt {L:ZN}{T k:Nat}(hL:L∈LL m.tags.length T)(hk:k<T):L.getD k 0<m.tags.length:=by have hl:=LL_len _ _ _ hL;refine LL_mem _ _ _ hL _ ?_;rw[Ya,Yb Zo];exact Y6 _
end
end Go.Proofs

namespace Go.Proofs
open Go.Ab Go.Cnt Go.Pl Go.Tg
structure Arc where
 i:Int
 o:Int
 w:Str
 t:Int
structure Sta where
 f:Str
 a:List Arc
structure Mach where
 k:Int
 s:Int
 l:Str
 q:List Sta
def arcR:Row Arc where
 enc a:=[.int .i64 a.i,.int .i64 a.o,.str a.w,.int .i64 a.t]
 n:=4
 dflt:=⟨0,0,[],0⟩
 len _:=rfl
 pos:=Zd
 pure a x h:=by
  simp only[Yy,YaE,Yce]at h;rcases h with rfl|rfl|rfl|rfl
  ·exact .int _ _
  ·exact .int _ _
  ·exact .str _
  exact .int _ _
 one _:=rfl
 inj a b h:=by obtain⟨a1,a2,a3,a4⟩:=a;obtain⟨b1,b2,b3,b4⟩:=b;simp only[Yw,V.str.injEq,V.int.injEq,Yap,Yaf]at h;obtain⟨rfl,rfl,rfl,rfl⟩:=h;rfl
def arcs(l:List Arc):ZA:=arcR.cells l
def nthA(l:List Arc)(i:Nat):Arc:=arcR.nth l i
def staR:Row Sta where
 enc s:=[.str s.f,.fs (arcs s.a) s.a.length]
 n:=2
 dflt:=⟨[],[]⟩
 len _:=rfl
 pos:=Zd
 pure a x h:=by
  simp only[Yy,YaE,Yce]at h;rcases h with rfl|rfl
  ·exact .str _
  exact .fs (arcR.pure_cells _)
 one _:=rfl
 inj a b h:=by obtain⟨a1,a2⟩:=a;obtain⟨b1,b2⟩:=b;simp only[Yw,V.str.injEq,V.fs.injEq,Yap,Yaf]at h;obtain⟨rfl,h,_⟩:=h;rw[arcR.cells_inj h]
def stas(l:List Sta):ZA:=staR.cells l
def nthQ(l:List Sta)(i:Nat):Sta:=staR.nth l i
def zbL(l:List Arc)(i:Nat)(h:i<l.length):(arcs l).drop (i*4)=.int .i64 (nthA l i).i::.int .i64 (nthA l i).o::.str (nthA l i).w::.int .i64 (nthA l i).t::arcs (l.drop (i+1)):=arcR.at_ l i h
def zbU(l:List Sta)(i:Nat)(h:i<l.length):(stas l).drop (i*2)=.str (nthQ l i).f::.fs (arcs (nthQ l i).a) (nthQ l i).a.length::stas (l.drop (i+1)):=staR.at_ l i h
def arcs_len(l:List Arc):(arcs l).length=l.length*4:=arcR.len_cells l
def stas_len(l:List Sta):(stas l).length=l.length*2:=staR.len_cells l
def zA8(l:List Arc):∀x∈arcs l,Pure x:=arcR.pure_cells l
def zwj(l:List Sta):∀x∈stas l,Pure x:=staR.pure_cells l
def zaW(l:List Arc):(∀x∈arcs l,Pure x)↔True:=arcR.pure_cellsP l
def zaj(l:List Sta):(∀x∈stas l,Pure x)↔True:=staR.pure_cellsP l
def arcs_inj {a b:List Arc}(h:arcs a=arcs b):a=b:=arcR.cells_inj h
def stas_inj {a b:List Sta}(h:stas a=stas b):a=b:=staR.cells_inj h
attribute [go_sem] arcs_len stas_len zaW zaj
def drop_nth {l:ZA}{k i:Nat}{r:ZA}(h:l.drop k=r):nthV l (k+i)=nthV r i:=by rw[zbt,zbt,←h,Yak]
def zU(m:Mach):V:=.agg [.int .i64 m.k,.int .i64 m.s,.str m.l,.fs (stas m.q) m.q.length]
def mach4(k s:Int)(l:Str)(q:List Sta):∀x∈[V.int .i64 k,.int .i64 s,.str l,.fs (stas q) q.length],Pure x:=fun x h=>by
 simp only[Yy,YaE,Yce]at h;rcases h with rfl|rfl|rfl|rfl
 ·exact .int _ _
 ·exact .int _ _
 ·exact .str _
 exact .fs (zwj _)
def mach4P(k s:Int)(l:Str)(q:List Sta):(∀x∈[V.int .i64 k,.int .i64 s,.str l,.fs (stas q) q.length],Pure x)↔True:=⟨fun _=>trivial,fun _=>mach4 k s l q⟩
attribute [go_sem] mach4P
def zdk(m:Mach):Pure (zU m):=.agg (mach4 _ _ _ _)
def zbD {a b:Mach}(h:zU a=zU b):a=b:=by obtain⟨a1,a2,a3,a4⟩:=a;obtain⟨b1,b2,b3,b4⟩:=b;simp only[zU,V.agg.injEq,Yw,V.int.injEq,V.str.injEq,V.fs.injEq,Yap,Yaf]at h;obtain⟨rfl,rfl,rfl,h,_⟩:=h;rw[stas_inj h]
def zb7(k:Int):Bool:=decide (1≤k)&&decide (k≤3)
def infS:Str:=[105,110,102]
def minS:Str:=[45,105,110,102]
def zdE(k:Int)(a:Str):Bool:=
 zb7 k&&(if a=infS∨a=minS then decide (a=infS)||decide (k=1)else(ratP a).isSome&&(decide (k=1)||decide (0≤zbe a [48])))
def zZ(k:Int)(a:Str):Bool:=zdE k a&&decide (a≠infS)&&decide (a≠minS)&&(decide (k=1)||decide (a≠[48]))
def arcB(k:Int)(n:Nat)(a:Arc):Bool:=decide (0≤a.i)&&decide (a.i≤500)&&decide (0≤a.o)&&decide (a.o≤500)&&decide (0≤a.t)&&decide (a.t<n)&&zZ k a.w
def staB(k:Int)(n:Nat)(s:Sta):Bool:=(decide (s.f=[])||zZ k s.f)&&s.a.all (arcB k n)
def arcN(q:List Sta):Nat:=(q.map fun s=>s.a.length).sum
def zco(m:Mach):Bool:=zb7 m.k&&decide (1≤m.q.length)&&decide (m.q.length≤3000)&&decide (0≤m.s)&&decide (m.s<m.q.length)&&zZ m.k m.l&&m.q.all (staB m.k m.q.length)&&decide (arcN m.q≤30000)
structure MS where
 q:List Sta
 f:Int
 c:Nat
structure Mod(m:Mdl):Prop where
 n:∀i j,i≤m.tags.length→j≤m.tags.length→p01 (nx m i j)=true
 e:∀j c,j<m.tags.length→c≤m.words.length→p01 (em m j c)=true
def inf_no:ratP infS=none:=Zd
def min_no:ratP minS=none:=Zd
def Is.val {a:Str}{x y:Nat}(h:Is a x y)(k:Int)(hk:zb7 k=true):zdE k a=true∧a≠infS∧a≠minS:=by
 obtain⟨hy,n,d,hr,he⟩:=h;have h1:a≠infS:=by rintro rfl;rw[inf_no]at hr;cases hr
 have h2:a≠minS:=by rintro rfl;rw[min_no]at hr;cases hr
 refine⟨?_,h1,h2⟩;unfold zdE;rw[Yh (by simp[h1,h2]),hk,hr];have hc:=cmp_is (a:=a) (b:=[48]) (x:=x) (u:=0) (y:=y) ⟨hy,n,d,hr,he⟩ ⟨hy,0,1,ratP_0,Zo⟩;have:0≤zbe a [48]:=by
  rw[hc];split
  ·omega
  rw[Yh Zo];omega
 simp[this]
def Is.nz {a:Str}{x y:Nat}(h:Is a x y)(hn:a≠[48]):0<x:=by
 rcases YT x with h0|h0
 ·subst h0;exact absurd h.zero hn
 exact h0
end Go.Proofs

namespace Go.Proofs
open Tryz Go.Ab Go.Pl Go.Cnt
def posB(a:Str):Bool:=(ratP a).isSome&&decide (0<zbe a [48])
def zo6(a:Str)(h:a.length≤1000000000):PCall prog 112 [.str a] (.ret (.bool (posB a))):=by
 refine Xc (rs:=[.tmp 2]) [0,2] [] mixed (zg zgD (zg zvg zh)) (zf) call112 func112 rfl ntmps112 rfl ?_;unfold posB;cases hs:(ratP a).isSome with
 |false=>simp(disch:=try exact Zq)only[go_sem,hs]
 |true=>simp(disch:=try exact Zq)only[go_sem,hs]
def cPos:ZV:=zC (fun a:Str=>[.str a]) (fun a=>a.length≤1000000000) fun a=>.ret (.bool (posB a))
def zlI(a:Str)(h:a.length≤1000000000):cPos [.str a]=some (.ret (.bool (posB a))):=zo (pat:=fun a:Str=>[V.str a]) (fun x y h=>by simpa using h) a h
def cPos_ok:ZC cPos 112:=zn fun a h=>zo6 a h
def zeL:ZA:=[.str [],.str [],.bool false,.nilF,.nilF,.nilF,.nilF,.nilF]
def zd4:ZA:=[.str infS,.str [48],.bool true,.fn 104 [],.fn 105 [],.fn 106 [],.fn 107 [],.fn 107 []]
def zd3:ZA:=[.str [48],.str [49],.bool false,.fn 108 [],.fn 109 [],.fn 110 [],.fn 111 [],.fn 112 []]
def ring3:ZA:=[.str [48],.str [49],.bool false,.fn 104 [],.fn 109 [],.fn 113 [],.fn 111 [],.fn 112 []]
theorem buK_n(z:Value)(parts:List (Nat×V))(H:Hp)(orig:AR):buK (some z) none parts H orig=orig:=rfl
def pl_ring4:zb5 prog 130=none:=Zk
def zAM(H:Hp):zqD prog 130 [(1,.agg zd4),(2,.agg zd3),(3,.agg ring3)] H=⟨True,.agg (zeL++zd4++zd3++ring3),H,[],[]⟩:=Zk
def ztI:Pure .nilF↔True:=⟨fun _=>trivial,fun _=>.nilF⟩
def rings_ok:PCall prog 88 [] (.ret (.agg (zeL++zd4++zd3++ring3))):=by have hb:=zAM;unfold zeL zd4 zd3 ring3 infS at hb ⊢;refine Xc (rs:=[.cell 0 130]) [0] [] mixed (zh) (zf) call88 func88 rfl ntmps88 rfl ?_;simp(disch:=try exact Zq)only[go_sem,buK_n,pl_ring4,hb];exact .pure (.agg (by simp[zS,zN,zc8,ztI]))
def cRings:ZV:=zC (fun _:Unit=>[]) (fun _=>True) fun _=>.ret (.agg (zeL++zd4++zd3++ring3))
def zzQ:cRings []=some (.ret (.agg (zeL++zd4++zd3++ring3))):=zo (pat:=fun _:Unit=>([]:ZA)) (fun _ _ _=>rfl) () trivial
def zfO:ZC cRings 88:=zn fun _ _=>rings_ok
def ziR(k:Int):ZA:=if k=1 then zd4 else if k=2 then zd3 else if k=3 then ring3 else zeL
def zyp:zb7 1=true:=Zd
def zyo:zb7 2=true:=Zd
def zyn:zb7 3=true:=Zd
def idx_1(H:Hp):zbZ prog 130 (.agg (zeL++zd4++zd3++ring3)) (.int .i64 1) H=⟨True,.agg zd4,H,[],[]⟩:=Zk
def idx_2(H:Hp):zbZ prog 130 (.agg (zeL++zd4++zd3++ring3)) (.int .i64 2) H=⟨True,.agg zd3,H,[],[]⟩:=Zk
def idx_3(H:Hp):zbZ prog 130 (.agg (zeL++zd4++zd3++ring3)) (.int .i64 3) H=⟨True,.agg ring3,H,[],[]⟩:=Zk
def of_ok(k:Int):PCall prog 77 [.int .i64 k] (.ret (.tup [.agg (ziR k),.bool (zb7 k)])):=by
 have hc:=zzQ;have i1:=idx_1;have i2:=idx_2;have i3:=idx_3;by_cases h1:k=1
 ·subst h1;show PCall _ _ _ (.ret (.tup [.agg zd4,.bool true]));unfold zeL zd4 zd3 ring3 infS at*;simp only[Ya4,YaK]at hc i1 i2 i3;refine Xc (rs:=[.cell 2 121,.tmp 3]) [0,2,3,9] [] mixed (zg zfO zh) (zf) zr4 func77 rfl ntmps77 rfl ?_;simp(disch:=try exact Zq)only[go_sem,hc,i1];exact .pure (.agg (by simp[zS,zN,zc8,ztI]))
 by_cases h2:k=2
 ·subst h2;show PCall _ _ _ (.ret (.tup [.agg zd3,.bool true]));unfold zeL zd4 zd3 ring3 infS at*;simp only[Ya4,YaK]at hc i1 i2 i3;refine Xc (rs:=[.cell 2 121,.tmp 3]) [0,2,3,9] [] mixed (zg zfO zh) (zf) zr4 func77 rfl ntmps77 rfl ?_;simp(disch:=try exact Zq)only[go_sem,hc,i2];exact .pure (.agg (by simp[zS,zN,zc8,ztI]))
 by_cases h3:k=3
 ·subst h3;show PCall _ _ _ (.ret (.tup [.agg ring3,.bool true]));unfold zeL zd4 zd3 ring3 infS at*;simp only[Ya4,YaK]at hc i1 i2 i3;refine Xc (rs:=[.cell 2 121,.tmp 3]) [0,2,3,9] [] mixed (zg zfO zh) (zf) zr4 func77 rfl ntmps77 rfl ?_;simp(disch:=try exact Zq)only[go_sem,hc,i3];exact .pure (.agg (by simp[zS,zN,zc8,ztI]))
 have hk:zb7 k=false:=by
  unfold zb7;by_cases h:1≤k
  ·rw[Yf h,Ye Zo];rfl
  rw[Ye h];rfl
 have hr:ziR k=zeL:=by unfold ziR;rw[Yh h1,Yh h2,Yh h3]
 rw[hk,hr];unfold zeL zd4 zd3 ring3 infS at*;simp only[Ya4,YaK]at hc i1 i2 i3;refine Xc (rs:=[.cell 2 121,.tmp 3]) [0,2,3,9] [] mixed (zg zfO zh) (zf) zr4 func77 rfl ntmps77 rfl ?_;by_cases h4:k<1
 ·have d1:decide (k<1)=true:=Yf h4;simp(disch:=try exact Zq)only[go_sem,hc,d1];exact .pure (.agg (by simp[zS,zN,zc8,ztI]))
 have d1:decide (k<1)=false:=Ye h4;have d2:decide (3<k)=true:=Yf Zo;simp(disch:=try exact Zq)only[go_sem,hc,d1,d2];exact .pure (.agg (by simp[zS,zN,zc8,ztI]))
def cOf:ZV:=zC (fun k:Int=>[.int .i64 k]) (fun _=>True) fun k=>.ret (.tup [.agg (ziR k),.bool (zb7 k)])
def zsh(k:Int):cOf [.int .i64 k]=some (.ret (.tup [.agg (ziR k),.bool (zb7 k)])):=zo (pat:=fun k:Int=>[V.int .i64 k]) (fun x y h=>by simpa using h) k trivial
def cOf_ok:ZC cOf 77:=zn fun k _=>of_ok k
def cmp_0 {a:Str}{s:Bool}{n d:Nat}(h:ratP a=some (s,n,d)):0<zbe a [48]↔(0≤zbe a [48]∧a≠[48]):=by
 have h0:ratP [48]=some (false,0,1):=ratP_0;obtain⟨hd,hgc,_,_⟩:=zbm h;have hz:n=0→s=false→a=[48]:=fun e1 e2=>by subst e1 e2;exact Is.zero (y:=1) ⟨Nat.one_pos,0,d,h,Zs⟩
 by_cases ha:a=[48]
 ·subst ha;have:zbe [48] [48]=0:=Zd;rw[this];simp
 simp only[ne_eq,ha,not_false_eq_true,Yap];unfold zbe;rw[h,h0];simp only[sumS];cases s with
 |false=>have:n≠0:=fun e=>ha (hz e rfl);simp[this]
 |true=>
  have hn:n≠0:=by
   rintro rfl;obtain rfl:d=1:=by simpa using hgc
   have ht:=zw2 h;have e:a=[45,48]:=by rw[ht];rfl
   rw[e]at h;have:ratP [45,48]=none:=Zd;rw[this]at h;cases h
  simp[hn]
def sm_prog(k:Int)(a:Str):(zb7 k&&(if k=1 then(ratP a).isSome else posB a))=zZ k a:=by
 unfold zZ zdE posB;cases hk:zb7 k with
 |false=>simp
 |true=>
  cases hr:ratP a with
  |none=>
   by_cases hi:a=infS
   ·simp[hi]
   by_cases hm:a=minS
   ·simp[hm]
   simp[hi,hm]
  |some q=>
   obtain⟨s,n,d⟩:=q;have h1:a≠infS:=by rintro rfl;rw[inf_no]at hr;cases hr
   have h2:a≠minS:=by rintro rfl;rw[min_no]at hr;cases hr
   by_cases k1:k=1
   ·simp[h1,h2,k1]
   have hc:=cmp_0 hr;simp[h1,h2,k1,hc]
theorem zzG(C:Cfg)(l:ZA)(nd:Prop)(H:Hp):callF C .nilF l nd H=.bad:=rfl
def zvY(k:Int)(a:Str)(h:a.length≤1000000000):PCall prog 52 [.int .i64 k,.str a] (.ret (.bool (zZ k a))):=by
 rw[←sm_prog];refine Xc (rs:=[.tmp 4]) [0,1,4,5] [] mixed (zg cOf_ok (zg cPos_ok (zg zgD zh))) (zf) call52 func52 rfl ntmps52 rfl ?_;by_cases h1:k=1
 ·subst h1;have e1:ziR 1=zd4:=rfl;rw[zyp];unfold zd4 infS at e1;simp(disch:=try exact Zq)only[go_sem,zsh,e1,zyp,zlI,zcZ]
 by_cases h2:k=2
 ·subst h2;have e1:ziR 2=zd3:=rfl;rw[zyo];unfold zd3 at e1;simp(disch:=try exact Zq)only[go_sem,zsh,e1,zyo,zlI,zcZ]
 by_cases h3:k=3
 ·subst h3;have e1:ziR 3=ring3:=rfl;rw[zyn];unfold ring3 at e1;simp(disch:=try exact Zq)only[go_sem,zsh,e1,zyn,zlI,zcZ]
 have hk:zb7 k=false:=by
  unfold zb7;by_cases h:1≤k
  ·rw[Yf h,Ye Zo];rfl
  rw[Ye h];rfl
 have e1:ziR k=zeL:=by unfold ziR;rw[Yh h1,Yh h2,Yh h3]
 rw[hk];unfold zeL at e1;simp(disch:=try exact Zq)only[go_sem,zsh,e1,hk,zlI,zcZ,zzG]
def cSmW:ZV:=zC (fun p:Int×Str=>[.int .i64 p.1,.str p.2]) (fun p=>p.2.length≤1000000000) fun p=>.ret (.bool (zZ p.1 p.2))
def zp8(k:Int)(a:Str)(h:a.length≤1000000000):cSmW [.int .i64 k,.str a]=some (.ret (.bool (zZ k a))):=zo (pat:=fun p:Int×Str=>[V.int .i64 p.1,.str p.2]) (fun x y h=>by simp at h;exact Yai h.1 h.2) (k,a) h
def cSmW_ok:ZC cSmW 52:=zn fun p h=>zvY p.1 p.2 h
end Go.Proofs

namespace Go.Proofs
open Go.Ab Go.Cnt Go.Pl Go.Tg
def k3:zb7 3=true:=Zd
def Is.small {a:Str}{x y:Nat}(h:Is a x y):∃n d,Is a n d∧n<10^400∧d<10^400:=by obtain⟨hy,n,d,hr,he⟩:=h;obtain⟨hd,_,l1,l2⟩:=zbm hr;exact⟨n,d,⟨hd,n,d,hr,rfl⟩,zbP (k:=400) l1,zbP (k:=400) l2⟩
section
variable {M:Mach}(hk:M.k=3)
include hk
end
end Go.Proofs



namespace Go.Proofs
open Tryz Go.Ab Go.Cnt Go.Pl Go.Tg
def rkind_ok(k:Int):PCall prog 66 [.int .i64 k] (.ret (.bool (zb7 k))):=by refine Xc (rs:=[.tmp 2]) [0,2] [] mixed (zh) (zf) call66 func66 rfl ntmps66 rfl ?_;simp only[go_sem];rfl
def cRKind:ZV:=zC (fun k:Int=>[.int .i64 k]) (fun _=>True) fun k=>.ret (.bool (zb7 k))
@[go_sem]def cRKind_eq(k:Int):cRKind [.int .i64 k]=some (.ret (.bool (zb7 k))):=zo (pat:=fun k:Int=>[.int .i64 k]) (fun x y h=>by simpa using h) k trivial
theorem znT:ZC cRKind 66:=zn fun k _=>rkind_ok k
def ztp(k:Int)(a:Str)(la:a.length≤1000000000):PCall prog 86 [.int .i64 k,.str a] (.ret (.bool (zdE k a))):=by
 have hΓ:=zg znT (zg zqe (zg zzZ zh));obtain⟨R,hR⟩:∃R,R=zdE k a:=⟨_,rfl⟩;rw[←hR];unfold zdE at hR;refine Xc (rs:=[.tmp 4]) [0,1,4,7,13] [] mixed (hΓ) (zf) call86 func86 rfl ntmps86 rfl ?_;simp(disch:=try exact Zq)only[go_sem];cases hk:zb7 k with
 |false=>rw[hk,Yah]at hR;rw[hR];simp(disch:=try exact Zq)only[go_sem]
 |true=>
  rw[hk,YaA]at hR;simp(disch:=try exact Zq)only[go_sem];by_cases h1:a=infS∨a=minS
  ·rw[Yi h1]at hR;have e:(decide (a=infS)||decide (a=minS))=true:=by simpa using h1
   have e':(decide (a=[105,110,102])||decide (a=[45,105,110,102]))=true:=e;rw[e',hR];simp(disch:=try exact Zq)only[go_sem];rfl
  rw[Yh h1]at hR;have e:(decide (a=infS)||decide (a=minS))=false:=by simpa using h1
  have e':(decide (a=[105,110,102])||decide (a=[45,105,110,102]))=false:=e;rw[e',hR];simp(disch:=try exact Zq)only[go_sem];exact fun h=>⟨h,fun h'=>by rw[h,h'];rfl⟩
def zsc:ZV:=zC (fun p:Int×Str=>[.int .i64 p.1,.str p.2]) (fun p=>p.2.length≤1000000000) fun p=>.ret (.bool (zdE p.1 p.2))
@[go_sem]def cRSValid_eq(k:Int)(a:Str)(la:a.length≤1000000000):zsc [.int .i64 k,.str a]=some (.ret (.bool (zdE k a))):=zo (pat:=fun p:Int×Str=>[.int .i64 p.1,.str p.2]) (fun x y h=>by simp at h;exact Yai h.1 h.2) (k,a) la
theorem zqc:ZC zsc 86:=zn fun p h=>ztp p.1 p.2 h
def ztm(k:Int)(a:Str)(la:a.length≤1000000000):PCall prog 67 [.int .i64 k,.str a] (.ret (.bool (zZ k a))):=by have hΓ:=zg zqc zh;refine Xc (rs:=[.tmp 4]) [0,1,4] [] mixed (hΓ) (zf) call67 func67 rfl ntmps67 rfl ?_;simp(disch:=try exact Zq)only[go_sem];unfold zZ;simp only[Ybv];exact⟨fun h=>⟨h,fun h'=>by rw[h,h'];rfl⟩,rfl⟩
def zsa:ZV:=zC (fun p:Int×Str=>[.int .i64 p.1,.str p.2]) (fun p=>p.2.length≤1000000000) fun p=>.ret (.bool (zZ p.1 p.2))
@[go_sem]def cRWeight_eq(k:Int)(a:Str)(la:a.length≤1000000000):zsa [.int .i64 k,.str a]=some (.ret (.bool (zZ k a))):=zo (pat:=fun p:Int×Str=>[.int .i64 p.1,.str p.2]) (fun x y h=>by simp at h;exact Yai h.1 h.2) (k,a) la
theorem zqa:ZC zsa 67:=zn fun p h=>ztm p.1 p.2 h
structure FitM(m:Mach):Prop where
 q:m.q.length≤1000000000
 a:∀s∈m.q,s.a.length≤1000000000
 l:m.l.length≤1000000000
 f:∀s∈m.q,s.f.length≤1000000000
 w:∀s∈m.q,∀a∈s.a,a.w.length≤1000000000
def sumA(q:List Sta)(i:Nat):Nat:=arcN (q.take i)
def zde(q:List Sta)(i:Nat)(h:i<q.length):sumA q (i+1)=sumA q i+(nthQ q i).a.length:=by unfold sumA arcN;rw[staR.take_nth q i h,YV,List.sum_append];simp[nthQ]
def za7(q:List Sta){i j:Nat}(h:i≤j)(hj:j≤q.length):sumA q i≤sumA q j:=by
 induction j with
 |zero=>rw[show i=0 by omega];exact Yc _
 |succ j ih=>
  rcases YaX j i with hl|hl
  ·rw[show i=j+1 by omega];exact Yc _
  rw[zde q j Zo];exact Ys (ih hl Zo) Zo
def zaM(q:List Sta):sumA q q.length=arcN q:=by unfold sumA;rw[Ym]
def zto(m:Mach)(hm:FitM m):PCall prog 35 [zU m] (.ret (.bool (zco m))):=by
 have hΓ:=zg znT (zg zqa zh);obtain⟨R,hR⟩:∃R,R=zco m:=⟨_,rfl⟩;rw[←hR];obtain⟨k,s,l,q⟩:=m;obtain⟨m1,m2,m3,m4,m5⟩:=hm;dsimp only at m1 m2 m3 m4 m5;unfold zco at hR;dsimp only at hR;refine PCall.walk (rs:=[.tmp 2]) [0,1,2,3,4,5,6,7,44,49,76,81,127] [24] mixed (hΓ) (zf) call35 func35 rfl ntmps35 rfl Zk Zs (by simp[push_cast,zdk]) ?_;simp(disch:=try exact Zq)only[go_sem,zU];have hb:(!zb7 k||decide ((q.length:Int)<1)||decide (3000<(q.length:Int))||decide (s<0)||decide ((q.length:Int)≤s)|| !zZ k l)=
  !(zb7 k&&decide (1≤q.length)&&decide (q.length≤3000)&&decide (0≤s)&&decide (s<q.length)&&zZ k l):=by
  simp only[YcC]
  congr 1
  congr 1
  ·congr 1
   ·congr 1
    ·congr 1;rw[←Ybv];exact Ya2.2 Zo
    rw[←Ybv];exact Ya2.2 Zo
   rw[←Ybv];exact Ya2.2 Zo
  ·rw[←Ybv];exact Ya2.2 Zo
 rw[hb];cases hc:(zb7 k&&decide (1≤q.length)&&decide (q.length≤3000)&&decide (0≤s)&&decide (s<q.length)&&zZ k l)with
 |false=>rw[hc,Yah,Yah]at hR;rw[hR];simp(disch:=try exact Zq)only[go_sem]
 |true=>
  rw[hc,YaA]at hR;have hq3:q.length≤3000:=by simp only[Yg,Yq]at hc;omega
  clear hb hc;have hbad:∀i,i<q.length→staB k q.length (nthQ q i)=false→R=false:=fun i hi h=>by rw[hR,staR.all_f (p:=staB k q.length) hi h,Yah]
  have hlong:∀i,i≤q.length→30000<sumA q i→R=false:=fun i hi h=>by have:=za7 q hi (Yc _);rw[zaM]at this;rw[hR,Ye (by omega:¬arcN q≤30000),YbO]
  have hs:=fun i h=>zde q i h;simp(disch:=try exact Zq)only[go_sem];refine AXs.loop mixed (hΓ) (zf) (fun i:Nat=>[(1,.fp [.int .i64 k,.int .i64 s,.str l,.fs (stas q) q.length]),(3,.int .i64 (sumA q i:Nat)),(4,.int .i64 i)]) (fun _=>⟨[],0⟩) (fun i=>i≤q.length∧sumA q i≤30000∧∀j,j<i→staB k q.length (nthQ q j)=true) (fun i=>q.length-i) 0 Zk ⟨Yk _,by simp[sumA,arcN],fun j hj=>Zo⟩ (Xa [] rfl rfl ?_ ?_) ?_
  ·simp only[go_sem];simp[sumA,arcN]
  ·simp only[go_sem]
  rintro i ⟨h1,h2,h3⟩;simp(disch:=try exact Zq)only[go_sem];refine Xb (fun h4=>?_) (fun h4=>?_);rotate_left
  ·obtain rfl:i=q.length:=Zo;rw[zaM]at h2;have e:R=true:=by rw[hR,staR.all_t (p:=staB k q.length) h3,Yf h2];rfl
   rw[e];simp only[go_sem];refine AXa.go mixed (hΓ) (zf) Zk ?_;simp only[go_sem]
  have hi:i<q.length:=Zo;have at1:=zbU q i hi;have hqm:nthQ q i∈q:=staR.nth_mem hi;have hsi:=hs i hi;have ha:=m2 _ hqm;have hf:=m4 _ hqm;have hw:=m5 _ hqm;have hbi:=hbad i hi;have hli:=hlong (i+1) Zo;generalize hss:nthQ q i=st at at1 hsi ha hf hw hbi;obtain⟨F,A⟩:=st;dsimp only at at1 hsi ha hf hw;simp(disch:=try exact Zq)only[go_sem,at1];refine⟨Zo,fun h=>⟨h,fun h'=>by rw[h,h'];rfl⟩,?_⟩;by_cases h5:30000<sumA q i+A.length
  ·have e1:decide (30000<(sumA q i:Int)+(A.length:Int))=true:=Yf Zo;rw[hli Zo,e1,Bool.true_or];simp(disch:=try exact Zq)only[go_sem]
  have e1:decide (30000<(sumA q i:Int)+(A.length:Int))=false:=Ye Zo;have e2:(!decide (F=[])&& !zZ k F)= !(decide (F=[])||zZ k F):=by rw[Bool.not_or]
  have hsB:staB k q.length ⟨F,A⟩=((decide (F=[])||zZ k F)&&A.all (arcB k q.length)):=rfl;rw[e1,YaB,e2];cases h6:(decide (F=[])||zZ k F)with
  |false=>rw[hbi (by rw[hsB,h6,Yah])];simp(disch:=try exact Zq)only[go_sem]
  |true=>
   rw[h6,YaA]at hsB;have hba:∀j,j<A.length→arcB k q.length (nthA A j)=false→R=false:=fun j hj h=>hbi (by rw[hsB,arcR.all_f (p:=arcB k q.length) hj h]);clear e2 h6;simp(disch:=try exact Zq)only[go_sem];refine AXs.loop mixed (hΓ) (zf) (fun j:Nat=>[(1,.fp [.int .i64 k,.int .i64 s,.str l,.fs (stas q) q.length]),(3,.int .i64 (sumA q (i+1):Nat)),(4,.int .i64 i),(5,.ptr 0 0),(6,.int .i64 j)]) (fun _=>⟨[(0,.cells [.str F,.fs (arcs A) A.length])],1⟩) (fun j=>j≤A.length∧∀z,z<j→arcB k q.length (nthA A z)=true) (fun j=>A.length-j) 0 Zk ⟨Yk _,fun j hj=>Zo⟩ (Xa [(0,0)] rfl rfl ?_ ?_) ?_
   ·rw[hsi];simp only[go_sem];simp
   ·simp only[go_sem]
   rintro j ⟨k1,k2⟩;simp(disch:=try exact Zq)only[go_sem];refine Xb (fun k3=>?_) (fun k3=>?_);rotate_left
   ·obtain rfl:j=A.length:=Zo;simp only[go_sem];refine AXa.go mixed (hΓ) (zf) Zk ?_;simp(disch:=try exact Zq)only[go_sem];refine zi (i+1) ⟨Zo,Zo,fun z hz=>?_⟩ Zo (Xa [] rfl rfl ?_ ?_)
    ·by_cases hzi:z<i
     ·exact h3 z hzi
     obtain rfl:z=i:=Zo;rw[hss,hsB];exact arcR.all_t (p:=arcB k q.length) k2
    ·simp only[go_sem];simp
    simp only[go_sem]
   have hj:j<A.length:=Zo;have at2:=zbL A j hj;have ham:nthA A j∈A:=arcR.nth_mem hj;have hwj:=hw _ ham;have hbj:=hba j hj;generalize hxx:nthA A j=x at at2 hwj hbj;obtain⟨xi,xo,xw,xt⟩:=x;dsimp only at at2 hwj;simp(disch:=try exact Zq)only[go_sem,at2];refine⟨Zo,?_⟩;have e3:(decide (xi<0)||decide (500<xi)||decide (xo<0)||decide (500<xo)||decide (xt<0)||decide ((q.length:Int)≤xt)|| !zZ k xw)= !arcB k q.length ⟨xi,xo,xw,xt⟩:=by unfold arcB;simp only[YcC,←Ybv,Int.not_le,Int.not_lt]
   rw[e3];cases h7:arcB k q.length ⟨xi,xo,xw,xt⟩with
   |false=>rw[hbj h7];simp(disch:=try exact Zq)only[go_sem]
   |true=>
    simp(disch:=try exact Zq)only[go_sem];refine zi (j+1) ⟨Zo,fun z hz=>?_⟩ Zo (Xa [(0,0)] rfl rfl ?_ ?_)
    ·by_cases hzi:z<j
     ·exact k2 z hzi
     obtain rfl:z=j:=Zo;rw[hxx];exact h7
    ·simp only[go_sem];simp
    simp only[go_sem]
def cRMach:ZV:=zC (fun m:Mach=>[zU m]) FitM fun m=>.ret (.bool (zco m))
def znO(m:Mach)(h:FitM m):cRMach [zU m]=some (.ret (.bool (zco m))):=zo (pat:=fun m:Mach=>[zU m]) (fun x y h=>zbD (by simpa using h)) m h
def znN:ZC cRMach 35:=zn fun m h=>zto m h
end Go.Proofs
