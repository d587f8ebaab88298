/- The machine of AbEv is sound: calls. -/
import Derived.Test.YtbdlfegfepggnaaGreatDoorAbEv
import Derived.Tactics
import Derived.Tactics2
import Derived.Defers
import Derived.Recover
import Derived.Laws.Pointers
import Derived.KernelRfl
import Derived.Laws.Externs
import Derived.Lib.Builder
set_option linter.all false
set_option maxHeartbeats 16000000
set_option maxRecDepth 100000
noncomputable section
namespace Go.Ab
variable {P:Program}
structure Gr(C:Cfg)(H H':Hp):Prop where
 next:H.next≤H'.next
 frame:C.nx≤H.next→∀b,b<C.nx→b∉C.Wm→H'.get b=H.get b
 keys:(∀b x,H.get b=some x→b<H.next)→∀b x,H'.get b=some x→b<H'.next
def Gr.refl(C:Cfg)(H:Hp):Gr C H H:=⟨Yc _,fun _ _ _ _=>rfl,fun h=>h⟩
def Gr.trans {C:Cfg}{H H' H'':Hp}(p:Gr C H H')(q:Gr C H' H''):Gr C H H'':=
 ⟨Yw p.next q.next,fun hn b hb h=>(q.frame (Yw hn p.next) b hb h).trans (p.frame hn b hb h),fun h=>q.keys (p.keys h)⟩
def Gr.of {C:Cfg}{H H':Hp}{W:ZN}(s:Stat H H' W)(hw:wok C W=true):Gr C H H':=by
 refine⟨s.next,fun hn b hb h=>s.frame b (Yu hb hn) fun hm=>?_,s.keys⟩;have:=Yl.1 hw b hm;simp only[Yaj,Yn,Ybl]at this;rcases this with h1|h1
 ·omega
 exact h h1
def put_h(s:TS)(dst:Option Tmp)(v:V)(h:Hp):(s.put dst v h).h=h:=by cases dst<;>rfl
def Grw(C:Cfg)(s s':TS):Prop:=(∃env,TE s.t env)→Gr C s.h s'.h∧∃env,TE s'.t env
def Grw.refl(C:Cfg)(s:TS):Grw C s s:=fun h=>⟨Gr.refl _ _,h⟩
def Grw.trans {C:Cfg}{s s' s'':TS}(p:Grw C s s')(q:Grw C s' s''):Grw C s s'':=fun h=>
 let ⟨p1,p2⟩:=p h
 let ⟨q1,q2⟩:=q p2
 ⟨p1.trans q1,q2⟩
def GrwL(C:Cfg)(s:TS)(l:List (Out×TS)):Prop:=∀p∈l,Grw C s p.2
def GrwL.one {C:Cfg}{s:TS}{o:Out}{s':TS}(h:Grw C s s'):GrwL C s [(o,s')]:=fun p hp=>by simp only[YB]at hp;subst hp;exact h
end Go.Ab

namespace Go.Ab
variable {P:Program}
def canB(P:Program)(f:FuncId):Bool:=
 match P.funcs[f]? with
 |some fn=>fn.body.isSome&& !(fn.name== "runtime.NumGoroutine")
 |none=>false
def canB_ok {f:FuncId}(h:canB P f=true):zk P f:=by
 unfold canB at h;split at h;rotate_left;·cases h
 rename_i fn hf;simp only[Yj,YaV,Ybq,ne_eq]at h;obtain⟨hb,hn⟩:=h;intro a w;cases hbb:fn.body with
 |none=>rw[hbb]at hb;cases hb
 |some c=>simp[callFunc,hf,hn,hbb]
end Go.Ab

namespace Go.Proofs
open Go.Ab
def zmV {P:Program}{f:FuncId}{vs:Array Value}{w:World}{R:Ending→World→Prop}(hc:zk P f)(h:GoCall P f vs w R):Calls P f vs w R:=by
 rcases h with⟨_,h⟩|⟨v,w',h1,_⟩
 ·exact h
 rw[hc vs w]at h1;cases h1
end Go.Proofs

namespace Go.Proofs
open Go.Ab Go.Pl
structure Two where
 p:Bool
 m:Nat
 d:Nat
 q:Bool
 n:Nat
 f:Nat
def Two.ok(x:Two):Prop:=(dec x.m).length≤400∧(dec x.d).length≤400∧0<x.d∧(dec x.n).length≤400∧(dec x.f).length≤400∧0<x.f
def Two.a(x:Two):ZA:=[.bool x.p,.str (dec x.m),.str (dec x.d)]
def Two.b(x:Two):ZA:=[.bool x.q,.str (dec x.n),.str (dec x.f)]
def Two.vs(x:Two):ZA:=[.agg x.a,.agg x.b]
def znu {a:ZL}(h1:(zH a).1=false)(h2:(zH a).2.2.2=false):(zH a).2.1=a:=by
 unfold zH at*;simp only at*;split at h1
 ·split at h2
  ·cases h2
  rename_i e1 _ e2;rw[e1]at e2;cases e2
 rename_i e1;simp only[e1];simp only at h1;rw[h1];rfl
def zuF {b:ZL}{q:Bool}{f:Nat}(h:ratP b=some (q,0,f)):b=[48]:=by
 unfold ratP at h;split at h
 case isFalse=>cases h
 case isTrue hk=>
  simp only[Yx,Ybc]at h
  obtain⟨_,h1,_⟩:=h
  simp only[zbI,Yj,Yn]at hk
  obtain⟨⟨⟨⟨k1,k2⟩,k3⟩,k4⟩,k5⟩:=hk
  have e1:=zaf (shortN_iff.1 k1).1
  have e2:=zaf (shortN_iff.1 k2).1
  rw[h1]at e1 k5
  rw[YbT]at k5
  rw[k5]at e2
  have e3:(zH b).2.1=[48]:=e1.symm
  have e4:(zH b).2.2.1=[49]:=e2.symm
  rw[e3]at k3
  rw[e4]at k4
  have n1:(zH b).1=false:=by cases h:(zH b).1<;>simp_all
  have n2:(zH b).2.2.2=false:=by cases h:(zH b).2.2.2<;>simp_all
  rw[←znu n1 n2];exact e3
def decHead {n:Nat}:(dec n).getD 0 0≠45:=by
 have h:=zfF n;have hp:=zdL n;intro e;have hm:(dec n).getD 0 0∈dec n:=by rw[Ya,Yb hp];exact Y1 hp
 have:=zd5 (Yl.1 h _ hm);rw[e]at this;revert this;decide
def decNo(n:Nat):∀x∈dec n,(x==47)=false:=fun x hx=>by
 have:=zd5 (Yl.1 (zfF n) x hx);cases e:x==47 with
 |false=>rfl
 |true=>
  have:x=47:=by simpa using e
  subst this;revert this;decide
def zhW(neg:Bool)(n d:Nat)(hn:neg=true→n≠0):zH (ratT neg n d)=(neg,dec n,if d=1 then [49]else dec d,decide (d≠1)):=by
 have hr:∀(y:ZL),(if neg=true∧n≠0 then [45]else [])++y=if neg=true then 45::y else y:=fun y=>by
  cases neg with
  |true=>rw[Yi ⟨rfl,hn rfl⟩,Yi rfl];rfl
  |false=>rw[Ye Zs,Ye Zs];rfl
 have ht:ratT neg n d=if neg=true then 45::(dec n++(if d=1 then []else 47::dec d))else dec n++(if d=1 then []else 47::dec d):=by unfold ratT;rw[YH,hr]
 have h0:(dec n++(if d=1 then []else 47::dec d)).getD 0 0=(dec n).getD 0 0:=by rw[Ya,YP (zdL n),Ya]
 have hneg:decide ((ratT neg n d).getD 0 0=45)=neg:=by
  rw[ht];cases neg with
  |true=>rw[Yi rfl];rfl
  |false=>rw[Ye Zs,h0];exact Yd decHead
 have hrest:(if neg=true then(ratT neg n d).drop 1 else ratT neg n d)=dec n++(if d=1 then []else 47::dec d):=by
  rw[ht];cases neg with
  |true=>rw[Yi rfl,Yi rfl];rfl
  |false=>rw[Ye Zs,Ye Zs]
 have hfn:∀l:ZL,(∀x∈l,(x==47)=false)→∀r,(l++47::r).findIdx? (· ==47)=some l.length:=by
  intro l;induction l with
  |nil=>intro _ r;simp[Ybj]
  |cons x l ih=>intro h r;rw[Ya2,Ybj];simp only[h x (YK ..),Y2,if_false,ih (fun y hy=>h y (Yaa _ hy)) r];rfl
 unfold zH;simp only[hneg,hrest];by_cases hd:d=1
 ·have:(dec n++(if d=1 then []else 47::dec d)).findIdx? (· ==47)=none:=by rw[Yi hd,Yab,List.findIdx?_eq_none_iff];exact decNo n
  simp only[this];rw[Yi hd,Yi hd,Yab];simp[hd]
 have:(dec n++(if d=1 then []else 47::dec d)).findIdx? (· ==47)=some (dec n).length:=by rw[Ye hd];exact hfn _ (decNo n) _
 simp only[this];rw[Ye hd,Ye hd,List.take_left];simp[hd]
def zfr {n:Nat}(h:(dec n).length≤400):zaW (dec n)=true:=by rw[shortN_iff,zfl];exact⟨by simp;omega,h⟩
def zlv {neg:Bool}{n d:Nat}(hn:neg=true→n≠0)(hd:0<d)(hg:Nat.gcd n d=1)(ln:(dec n).length≤400)(ld:(dec d).length≤400):ratP (ratT neg n d)=some (neg,n,d):=by
 unfold ratP;rw[zhW neg n d hn];have hv:valD (if d=1 then [49]else dec d)=d:=by
  split
  ·rename_i h;rw[h];rfl
  exact zaL d
 have h1:dec 1=[49]:=rfl;have hs:zaW (if d=1 then [49]else dec d)=true:=by
  split
  ·rw[←h1];exact zfr Zd
  exact zfr ld
 have hok:zbI neg (dec n) (if d=1 then [49]else dec d) (decide (d≠1))=true:=by
  unfold zbI;rw[zfr ln,hs,hv,zaL];have h2:(neg&&decide (dec n=[48]))=false:=by
   cases hneg:neg with
   |false=>rfl
   |true=>have:=hn hneg;simp only[Yau,Yat];intro e;exact this (dec_is_zero.1 e)
  have h3:(decide (d≠1)&&(decide ((if d=1 then [49]else dec d)=[48])||decide ((if d=1 then [49]else dec d)=[49])))=false:=by
   by_cases h:d=1
   ·simp[h]
   rw[Ye h];have e1:¬dec d=[48]:=fun e=>by have:=dec_is_zero.1 e;omega
   have e2:¬dec d=[49]:=fun e=>h (zbL (e.trans h1.symm));simp[e1,e2]
  rw[h2,h3];simp only[Yau,Bool.not_false,Yav,Yn];exact hg
 rw[Yi hok];simp only[zaL,hv]
def zgU {n:Nat}(h:(dec n).length≤400):ratP (dec n)=some (false,n,1):=by
 have:=zlv (neg:=false) (n:=n) (d:=1) (fun h=>by cases h) Zo (YbU n) h Zd;have e:ratT false n 1=dec n:=by unfold ratT;simp
 rwa [e]at this
def mkV_read(m:Nat)(d:Nat)(hd:0<d):((resP (mkV false m d)).2≠0→(resP (mkV false m d)).2=2)∧((resP (mkV false m d)).2=0→ratP (resP (mkV false m d)).1=some (false,m/Nat.gcd m d,d/Nat.gcd m d)∧0<d/Nat.gcd m d):=by
 unfold mkV;split
 ·rw[resP_err];exact⟨fun _=>rfl,fun h=>by cases h⟩
 rename_i h;rw[resP_tup];have h':¬(400<(dec (m/Nat.gcd m d)).length∨400<(dec (d/Nat.gcd m d)).length):=by simpa[longN]using h
 have hg:0<Nat.gcd m d:=Nat.gcd_pos_of_pos_right m hd;have hdg:0<d/Nat.gcd m d:=Nat.div_pos (Ycp hd (Nat.gcd_dvd_right m d)) hg;refine⟨fun h=>absurd rfl h,fun _=>⟨?_,hdg⟩⟩;exact zlv (fun h=>by cases h) hdg (Nat.coprime_div_gcd_div_gcd hg) Zo Zo
theorem sumS_pos(a b:Nat):sumS false a false b=(false,a+b):=rfl
def ratP_0:ratP [48]=some (false,0,1):=by have:=zgU (n:=0) Zd;rwa [dec_zero]at this
end Go.Proofs

namespace Go.Proofs
open Go.Ab Go.Cnt Go.Pl
def p01(p:Str):Bool:=(ratP p).isSome&&decide (0≤zbl p [48])&&decide (zbl p [49]≤0)
def Is(a:Str)(x y:Nat):Prop:=0<y∧∃n d,ratP a=some (false,n,d)∧n*y=x*d
def mulr {a b c:Nat}(hc:0<c)(h:a*c=b*c):a=b:=Nat.eq_of_mul_eq_mul_right hc h
def Is.eq {a:Str}{x y u v:Nat}(h:Is a x y)(hv:0<v)(e:x*v=u*y):Is a u v:=by
 obtain⟨hy,n,d,hr,he⟩:=h;refine⟨hv,n,d,hr,mulr hy ?_⟩;calc n*v*y=n*y*v:=by ac_rfl
  _=x*v*d:=by rw[he];ac_rfl
  _=u*d*y:=by rw[e];ac_rfl
def Is.zero {a:Str}{y:Nat}(h:Is a 0 y):a=[48]:=by
 obtain⟨hy,n,d,hr,he⟩:=h;have:n=0:=by
  rcases Nat.mul_eq_zero.1 (he.trans (Ybo d))with h|h
  ·exact h
  omega
 subst this;exact zuF hr
def Is.pos {a:Str}{x y:Nat}(h:Is a x y)(hx:0<x):a≠[48]:=by rintro rfl;obtain⟨hy,n,d,hr,he⟩:=h;have e:some (false,0,1)=some (false,n,d):=ratP_0.symm.trans hr;simp only[Yx,Ybc,Yag]at e;rw[←e.1,←e.2]at he;omega
def Is.dec {n:Nat}(h:(dec n).length≤400):Is (dec n) n 1:=⟨Zo,n,1,zgU h,rfl⟩
def mkV_is {m d:Nat}(hd:0<d)(h:(resP (mkV false m d)).2=0):Is (resP (mkV false m d)).1 m d:=by obtain⟨h1,h2⟩:=(mkV_read m d hd).2 h;have g1:m/Nat.gcd m d*Nat.gcd m d=m:=Nat.div_mul_cancel (Nat.gcd_dvd_left m d);have g2:d/Nat.gcd m d*Nat.gcd m d=d:=Nat.div_mul_cancel (Nat.gcd_dvd_right m d);refine⟨hd,_,_,h1,?_⟩;generalize m/Nat.gcd m d=p at*;generalize d/Nat.gcd m d=q at*;generalize Nat.gcd m d=g at*;subst g1 g2;ac_rfl
def Is.add {a b:Str}{x y u v:Nat}(ha:Is a x y)(hb:Is b u v)(h:(resP (zgW a b)).2=0):Is (resP (zgW a b)).1 (x*v+u*y) (y*v):=by
 obtain⟨hy,m,d,hr,he⟩:=ha;obtain⟨hv,n,f,hs,hf⟩:=hb;have hd:=(za7 hr).1;have hff:=(za7 hs).1;rw[zuM hr hs,sumS_pos]at h ⊢;refine(mkV_is (YbG hd hff) h).eq (YbG hy hv) ?_;show (m*f+n*d)*(y*v)=(x*v+u*y)*(d*f);rw[Y5,Y5];congr 1
 ·calc m*f*(y*v)=m*y*(f*v):=by ac_rfl
   _=x*v*(d*f):=by rw[he];ac_rfl
 calc n*d*(y*v)=n*v*(d*y):=by ac_rfl
  _=u*y*(d*f):=by rw[hf];ac_rfl
def Is.mul {a b:Str}{x y u v:Nat}(ha:Is a x y)(hb:Is b u v)(h:(resP (zgV a b)).2=0):Is (resP (zgV a b)).1 (x*u) (y*v):=by
 obtain⟨hy,m,d,hr,he⟩:=ha;obtain⟨hv,n,f,hs,hf⟩:=hb;have hd:=(za7 hr).1;have hff:=(za7 hs).1;rw[zuI hr hs]at h ⊢;refine(mkV_is (YbG hd hff) h).eq (YbG hy hv) ?_;calc m*n*(y*v)=(m*y)*(n*v):=by ac_rfl
  _=x*u*(d*f):=by rw[he,hf];ac_rfl
def Is.one {a:Str}{y:Nat}(h:Is a y y):∃d,ratP a=some (false,d,d):=by
 obtain⟨hy,n,d,hr,he⟩:=h;have:n=d:=by rw[Yac y d]at he;exact mulr hy he
 subst this;exact⟨_,hr⟩
def Is.p01 {a:Str}{x y:Nat}(h:Is a x y)(hxy:x≤y):p01 a=true:=by
 obtain⟨hy,n,d,hr,he⟩:=h;have hd:=(za7 hr).1;have hnd:n≤d:=by
  have h1:n*y≤d*y:=by rw[he,Yac d y];exact YI d hxy
  exact Nat.le_of_mul_le_mul_right h1 hy
 have e1:ratP [49]=some (false,1,1):=zgU (n:=1) Zd;have c0:0≤zbl a [48]:=by
  rw[zf8 hr ratP_0];have:sumS false (n*1) (!false) (0*d)=(false,n):=by simp[sumS]
  rw[this];split
  ·exact Ych _
  rw[Ye Zs];decide
 have c1:zbl a [49]≤0:=by
  rw[zf8 hr e1];have:sumS false (n*1) (!false) (1*d)=if d≤n then(false,n-d)else(true,d-n):=by simp[sumS]
  rw[this];by_cases hdn:d≤n
  ·rw[Yi hdn,Yi (show n-d=0 by omega)];exact Ych _
  rw[Ye hdn,Ye (show ¬d-n=0 by omega),Yi rfl];decide
 unfold Go.Proofs.p01;rw[hr,Yf c0,Yf c1];rfl
def pmul(a b:Str):Str×Int:=resP (zgV a b)
def padd(a b:Str):Str×Int:=resP (zgW a b)
def zuG {a:Str}{s:Bool}{n d:Nat}(h:ratP a=some (s,n,d)):a=(if s then [45]else [])++dec n++(if d=1 then []else 47::dec d):=by
 unfold ratP at h;split at h
 case isFalse=>cases h
 case isTrue hk=>
  simp only[Yx,Ybc]at h
  obtain⟨h1,h2,h3⟩:=h
  simp only[zbI,Yj,Yn]at hk
  obtain⟨⟨⟨⟨k1,k2⟩,k3⟩,k4⟩,k5⟩:=hk
  have e1:=zaf (shortN_iff.1 k1).1
  have e2:=zaf (shortN_iff.1 k2).1
  rw[h2]at e1
  rw[h3]at e2
  rw[e1]
  have e3:(if d=1 then []else 47::dec d)=if (zH a).2.2.2=true then 47::(zH a).2.2.1 else []:=by
   rcases zgT a with hf|hf
   ·rw[Yi hf];rw[hf]at k4;have hd:d≠1:=by rintro rfl;rw[←e2]at k4;simp at k4;exact k4.2 rfl
    rw[Ye hd,e2]
   by_cases hfr:(zH a).2.2.2=true
   ·rw[hfr,hf]at k4;simp at k4
   rw[Ye hfr];have hd:d=1:=by rw[←h3,hf];rfl
   rw[Yi hd]
  rw[e3,←h1]
  clear e1 e2 e3 h1 h2 h3 k1 k2 k3 k4 k5
  unfold zH
  simp only
  have hn:decide (a.getD 0 0=45)=true→a=45::a.drop 1:=fun h=>by
   cases a with
   |nil=>revert h;decide
   |cons c l=>simp at h;simp[h]
  generalize hng:decide (a.getD 0 0=45)=neg at hn ⊢
  have hr:a=(if neg then [45]else [])++(if neg=true then a.drop 1 else a):=by
   cases neg with
   |false=>rfl
   |true=>exact hn rfl
  have hh:∀(r:Str)(x:Option Nat),r.findIdx? (· ==47)=x→a=(if neg then [45]else [])++r→a=(if (match x with|some i=>(neg,r.take i,r.drop (i+1),true)|none=>(neg,r,[49],false)).1=true then [45]else [])++(match x with|some i=>(neg,r.take i,r.drop (i+1),true)|none=>(neg,r,[49],false)).2.1++
   (if (match x with|some i=>(neg,r.take i,r.drop (i+1),true)|none=>(neg,r,[49],false)).2.2.2=true then 47::(match x with|some i=>(neg,r.take i,r.drop (i+1),true)|none=>(neg,r,[49],false)).2.2.1 else []):=by
   intro r x hx hr
   cases x with
   |none=>simp only[Yab,Y2,if_false];exact hr
   |some i=>
    simp only[if_true]
    rw[YbQ]at hx
    obtain⟨hi,h47,_⟩:=hx
    have h47':r[i]=47:=by simpa using h47
    have:r=r.take i++47::r.drop (i+1):=by conv=>lhs;rw[←Yaf i r,Yaw hi,h47']
    rw[YH,←this];exact hr
  exact hh _ _ rfl hr
def Is.z {a:Str}{x y:Nat}(h:Is a x y):a=[48]↔x=0:=by
 constructor
 ·intro e;rcases YR x with h0|h0
  ·exact h0
  exact absurd e (h.pos h0)
 rintro rfl;exact h.zero
def Is.low {a:Str}{x y:Nat}(h:Is a x y):∃n d,ratP a=some (false,n,d)∧0<d∧n≤x∧d≤y:=by
 obtain⟨hy,n,d,hr,he⟩:=h;obtain⟨hd,hg,_⟩:=za7 hr;refine⟨n,d,hr,hd,?_,?_⟩
 ·rcases YR x with h0|h0
  ·subst h0;rw[Ybo]at he;rcases Nat.mul_eq_zero.1 he with h|h
   ·omega
   omega
  have:n ∣ x*d:=⟨y,he.symm⟩;exact Ycp h0 (Nat.Coprime.dvd_of_dvd_mul_right hg this)
 have:d ∣ n*y:=⟨x,by rw[he];exact Yac _ _⟩;exact Ycp hy ((Nat.Coprime.symm hg).dvd_of_dvd_mul_left this)
def cmp_is {a b:Str}{x u y:Nat}(ha:Is a x y)(hb:Is b u y):zbl a b=if x=u then 0 else if x<u then -1 else 1:=by
 obtain⟨hy,m,d,hr,he⟩:=ha;obtain⟨_,n,f,hs,hf⟩:=hb;obtain⟨hd,_⟩:=za7 hr;obtain⟨hf0,_⟩:=za7 hs;rw[zf8 hr hs];have e1:m*f*y=x*(d*f):=by
  calc m*f*y=m*y*f:=by ac_rfl
   _=x*(d*f):=by rw[he];ac_rfl
 have e2:n*d*y=u*(d*f):=by
  calc n*d*y=n*y*d:=by ac_rfl
   _=u*(d*f):=by rw[hf];ac_rfl
 have hdf:0<d*f:=YbG hd hf0;have s1:(sumS false (m*f) (!false) (n*d))=if n*d≤m*f then(false,m*f-n*d)else(true,n*d-m*f):=by simp[sumS]
 rw[s1];have lt_iff:m*f<n*d↔x<u:=by
  constructor
  ·intro h;have:=Ybe h hy;rw[e1,e2]at this;exact Ybk this
  intro h;have:=Ybe h hdf;rw[←e1,←e2]at this;exact Ybk this
 have eq_iff:m*f=n*d↔x=u:=by
  constructor
  ·intro h;rw[h]at e1;exact mulr hdf (e1.symm.trans e2)
  intro h;rw[h]at e1;exact mulr hy (e1.trans e2.symm)
 generalize m*f=A at*;generalize n*d=B at*;by_cases h:B≤A
 ·rw[Yi h];dsimp only;by_cases h':A=B
  ·rw[Yi Zo,Yi (eq_iff.1 h')]
  rw[Ye Zo,Ye Zs,Ye fun k=>h' (eq_iff.2 k),Ye fun k=>by have:=lt_iff.2 k;omega]
 rw[Ye h];dsimp only;rw[Ye Zo,Yi rfl,Ye fun k=>by have:=eq_iff.2 k;omega,Yi (lt_iff.1 Zo)]
def kn(f:Int)(r:Str×Int):Str×Int:=if r.2≠0 then([48],if f=0 then r.2 else f)else(r.1,f)
def tm(f:Int)(a b:Str):Str×Int:=kn f (pmul a b)
def ps(f:Int)(a b:Str):Str×Int:=kn f (padd a b)
structure Run where
 m:Mdl
 cs:ZN
 f:Int
end Go.Proofs

namespace Go.Proofs
open Go.Ab Go.Cnt
def Tryz.infoS:zho Tryz.prog 9=some (1,16,true):=Zk
attribute [go_sem] Tryz.infoS Int.sub_zero
end Go.Proofs

namespace Go.Proofs
open Go.Ab Go.Cnt Go.Pl
structure Fit(m:Mdl):Prop where
 tl:m.tags.length≤100000
 wl:m.words.length≤100000
 nl:m.next.length≤100000
 el:m.emit.length≤100000
 ts:∀s∈m.tags,s.length≤1000000000000000
 ws:∀s∈m.words,s.length≤1000000000000000
 nr:∀r∈m.next,r.length≤1000000
 er:∀r∈m.emit,r.length≤1000000
 ns:∀r∈m.next,∀s∈r,s.length≤1000000
 es:∀r∈m.emit,∀s∈r,s.length≤1000000
end Go.Proofs

namespace Go.Tg
def lexLt:ZN→ZN→Bool
 |[],[]=>false
 |[],_::_=>true
 |_::_,[]=>false
 |x::a,y::b=>decide (x<y)||(decide (x=y)&&lexLt a b)
abbrev Cand:=Nat×ZN
def better(x y:Cand):Cand:=if x.1<y.1∨(x.1=y.1∧y.1≠0∧lexLt y.2 x.2=true)then y else x
def stp(x:Cand)(w:Nat)(j:ZN):Cand:=if x.1*w=0 then(0,[])else(x.1*w,x.2++j)
structure Best(S:Nat→ZN→Prop)(x:Cand):Prop where
 z:x.1=0→x.2=[]
 i:x.1≠0→S x.1 x.2
 b:∀w L,S w L→w≤x.1∧(w=x.1→x.1≠0→lexLt L x.2=false)
section
variable(n:Nat)(a:Nat→Nat→Nat→Nat)(b:Nat→Nat)
def src(t:Nat):ZN:=if t=0 then [n]else List.range n
def fw:Nat→Nat→Cand
 |0,_=>(1,[])
 |t+1,j=>(src n t).foldl (fun v i=>better v (stp (fw t i) (a t i j) [j])) (0,[])
def fin(T:Nat):Cand:=(src n T).foldl (fun v i=>better v (stp (fw n a T i) (b i) [])) (0,[])
def lastOf(L:ZN)(k:Nat):Nat:=if k=0 then n else L.getD (k-1) 0
def pw(L:ZN):Nat→Nat
 |0=>1
 |k+1=>pw L k*a k (lastOf n L k) (L.getD k 0)
def wt(L:ZN)(T:Nat):Nat:=pw n a L T*b (lastOf n L T)
def LL:Nat→List ZN
 |0=>[[]]
 |t+1=>(LL t).flatMap fun l=>(List.range n).map fun j=>l++[j]
def LL_len:∀t,∀l∈LL n t,l.length=t
 |0,l,h=>by simp[LL]at h;simp[h]
 |t+1,l,h=>by simp only[LL,Yay,YZ,YbF]at h;obtain⟨l',h1,j,_,rfl⟩:=h;simp[LL_len t l' h1]
def LL_mem:∀t,∀l∈LL n t,∀x∈l,x<n
 |0,l,h,x,hx=>by simp[LL]at h;simp[h]at hx
 |t+1,l,h,x,hx=>by
  simp only[LL,Yay,YZ,YbF]at h;obtain⟨l',h1,j,hj,rfl⟩:=h;rcases Yam.1 hx with hx|hx
  ·exact LL_mem t l' h1 x hx
  rw[YB.1 hx];exact hj
def all(w:ZN→Nat)(l:List ZN):Cand:=l.foldl (fun m L=>if m.1<w L then(w L,L)else m) (0,[])
end
end Go.Tg

namespace Go.Proofs
open Go.Ab Go.Cnt Go.Pl Go.Tg
def nx(m:Mdl)(i j:Nat):Str:=(nthR m.next i).getD j []
def em(m:Mdl)(j c:Nat):Str:=(nthR m.emit j).getD c []
section
variable {β:Type}(st:Int→β→ZN→Str→β×Int)(pl:Int→β→β→β×Int)(m:Mdl)(none first:β)
end
structure Nums(m:Mdl)(cs:ZN)(N:Nat→Nat→Nat→Nat)(E:Nat→Nat→Nat)(b:Nat→Nat)(DN DE:Nat→Nat)(Df:Nat):Prop where
 n:∀t i j,t<cs.length→i∈src m.tags.length t→j<m.tags.length→Is (nx m i j) (N t i j) (DN t)∧N t i j≤DN t
 e:∀t j,t<cs.length→j<m.tags.length→Is (em m j (cs.getD t 0)) (E t j) (DE t)∧E t j≤DE t
 f:∀i,i∈src m.tags.length cs.length→Is (nx m i m.tags.length) (b i) Df∧b i≤Df
 pn:∀t,0<DN t
 pe:∀t,0<DE t
 pf:0<Df
section
variable {m:Mdl}{cs:ZN}{N:Nat→Nat→Nat→Nat}{E:Nat→Nat→Nat}{b:Nat→Nat}{DN DE:Nat→Nat}{Df:Nat}
end
end Go.Proofs

namespace Go.Proofs
open Go.Ab Go.Cnt Go.Pl Go.Tg
section
variable {m:Mdl}{cs:ZN}{N:Nat→Nat→Nat→Nat}{E:Nat→Nat→Nat}{b:Nat→Nat}{DN DE:Nat→Nat}{Df:Nat}
def getD_lt {L:ZN}{T k:Nat}(hL:L∈LL m.tags.length T)(hk:k<T):L.getD k 0<m.tags.length:=by have hl:=LL_len _ _ _ hL;refine LL_mem _ _ _ hL _ ?_;rw[Ya,Yb Zo];exact Y1 _
end
end Go.Proofs

namespace Go.Proofs
open Go.Ab Go.Cnt Go.Pl Go.Tg
structure Arc where
 i:Int
 o:Int
 w:Str
 t:Int
structure Sta where
 f:Str
 a:List Arc
structure Mach where
 k:Int
 s:Int
 l:Str
 q:List Sta
def arcR:Row Arc where
 enc a:=[.int .i64 a.i,.int .i64 a.o,.str a.w,.int .i64 a.t]
 n:=4
 dflt:=⟨0,0,[],0⟩
 len _:=rfl
 pos:=Zd
 pure a x h:=by
  simp only[Yy,YaM,YbZ]at h;rcases h with rfl|rfl|rfl|rfl
  ·exact .int _ _
  ·exact .int _ _
  ·exact .str _
  exact .int _ _
 one _:=rfl
 inj a b h:=by obtain⟨a1,a2,a3,a4⟩:=a;obtain⟨b1,b2,b3,b4⟩:=b;simp only[Yt,V.str.injEq,V.int.injEq,Yad,Yag]at h;obtain⟨rfl,rfl,rfl,rfl⟩:=h;rfl
def arcs(l:List Arc):ZA:=arcR.cells l
def nthA(l:List Arc)(i:Nat):Arc:=arcR.nth l i
def staR:Row Sta where
 enc s:=[.str s.f,.fs (arcs s.a) s.a.length]
 n:=2
 dflt:=⟨[],[]⟩
 len _:=rfl
 pos:=Zd
 pure a x h:=by
  simp only[Yy,YaM,YbZ]at h;rcases h with rfl|rfl
  ·exact .str _
  exact .fs (arcR.pure_cells _)
 one _:=rfl
 inj a b h:=by obtain⟨a1,a2⟩:=a;obtain⟨b1,b2⟩:=b;simp only[Yt,V.str.injEq,V.fs.injEq,Yad,Yag]at h;obtain⟨rfl,h,_⟩:=h;rw[arcR.cells_inj h]
def stas(l:List Sta):ZA:=staR.cells l
def nthQ(l:List Sta)(i:Nat):Sta:=staR.nth l i
def zcA(l:List Arc)(i:Nat)(h:i<l.length):(arcs l).drop (i*4)=.int .i64 (nthA l i).i::.int .i64 (nthA l i).o::.str (nthA l i).w::.int .i64 (nthA l i).t::arcs (l.drop (i+1)):=arcR.at_ l i h
def zcw(l:List Sta)(i:Nat)(h:i<l.length):(stas l).drop (i*2)=.str (nthQ l i).f::.fs (arcs (nthQ l i).a) (nthQ l i).a.length::stas (l.drop (i+1)):=staR.at_ l i h
def zgf(l:List Arc):(arcs l).length=l.length*4:=arcR.len_cells l
def zf6(l:List Sta):(stas l).length=l.length*2:=staR.len_cells l
def zhH(l:List Arc):∀x∈arcs l,Pure x:=arcR.pure_cells l
def zla(l:List Sta):∀x∈stas l,Pure x:=staR.pure_cells l
def zas(l:List Arc):(∀x∈arcs l,Pure x)↔True:=arcR.pure_cellsP l
def zW(l:List Sta):(∀x∈stas l,Pure x)↔True:=staR.pure_cellsP l
def zbE {π:Nat→Nat}{N:Nat→Prop}(l:List Arc):LRel (Rn π N) (arcs l) (arcs l)↔True:=arcR.lrel_cells l
def zcv {π:Nat→Nat}{N:Nat→Prop}(l:List Sta):LRel (Rn π N) (stas l) (stas l)↔True:=staR.lrel_cells l
def arcs_inj {a b:List Arc}(h:arcs a=arcs b):a=b:=arcR.cells_inj h
def stas_inj {a b:List Sta}(h:stas a=stas b):a=b:=staR.cells_inj h
attribute [go_sem] zgf zf6 zas zW zbE zcv
def drop_nth {l:ZA}{k i:Nat}{r:ZA}(h:l.drop k=r):nthV l (k+i)=nthV r i:=by rw[zby,zby,←h,Y8]
def zad(m:Mach):V:=.agg [.int .i64 m.k,.int .i64 m.s,.str m.l,.fs (stas m.q) m.q.length]
def mach4(k s:Int)(l:Str)(q:List Sta):∀x∈[V.int .i64 k,.int .i64 s,.str l,.fs (stas q) q.length],Pure x:=fun x h=>by
 simp only[Yy,YaM,YbZ]at h;rcases h with rfl|rfl|rfl|rfl
 ·exact .int _ _
 ·exact .int _ _
 ·exact .str _
 exact .fs (zla _)
def mach4P(k s:Int)(l:Str)(q:List Sta):(∀x∈[V.int .i64 k,.int .i64 s,.str l,.fs (stas q) q.length],Pure x)↔True:=⟨fun _=>trivial,fun _=>mach4 k s l q⟩
attribute [go_sem] mach4P
def zlO(m:Mach):Pure (zad m):=.agg (mach4 _ _ _ _)
def zcK {a b:Mach}(h:zad a=zad b):a=b:=by obtain⟨a1,a2,a3,a4⟩:=a;obtain⟨b1,b2,b3,b4⟩:=b;simp only[zad,V.agg.injEq,Yt,V.int.injEq,V.str.injEq,V.fs.injEq,Yad,Yag]at h;obtain⟨rfl,rfl,rfl,h,_⟩:=h;rw[stas_inj h]
def zcz(k:Int):Bool:=decide (1≤k)&&decide (k≤3)
def infS:Str:=[105,110,102]
def minS:Str:=[45,105,110,102]
def zgJ(k:Int)(a:Str):Bool:=
 zcz k&&(if a=infS∨a=minS then decide (a=infS)||decide (k=1)else(ratP a).isSome&&(decide (k=1)||decide (0≤zbl a [48])))
def zam(k:Int)(a:Str):Bool:=zgJ k a&&decide (a≠infS)&&decide (a≠minS)&&(decide (k=1)||decide (a≠[48]))
def smZero(k:Int):Str:=if zcz k=false then []else if k=1 then infS else [48]
def arcB(k:Int)(n:Nat)(a:Arc):Bool:=decide (0≤a.i)&&decide (a.i≤500)&&decide (0≤a.o)&&decide (a.o≤500)&&decide (0≤a.t)&&decide (a.t<n)&&zam k a.w
def staB(k:Int)(n:Nat)(s:Sta):Bool:=(decide (s.f=[])||zam k s.f)&&s.a.all (arcB k n)
def arcN(q:List Sta):Nat:=(q.map fun s=>s.a.length).sum
def zcy(m:Mach):Bool:=zcz m.k&&decide (1≤m.q.length)&&decide (m.q.length≤3000)&&decide (0≤m.s)&&decide (m.s<m.q.length)&&zam m.k m.l&&m.q.all (staB m.k m.q.length)&&decide (arcN m.q≤30000)
structure MS where
 q:List Sta
 f:Int
 c:Nat
structure Mod(m:Mdl):Prop where
 n:∀i j,i≤m.tags.length→j≤m.tags.length→p01 (nx m i j)=true
 e:∀j c,j<m.tags.length→c≤m.words.length→p01 (em m j c)=true
def inf_no:ratP infS=none:=Zd
def min_no:ratP minS=none:=Zd
def Is.val {a:Str}{x y:Nat}(h:Is a x y)(k:Int)(hk:zcz k=true):zgJ k a=true∧a≠infS∧a≠minS:=by
 obtain⟨hy,n,d,hr,he⟩:=h;have h1:a≠infS:=by rintro rfl;rw[inf_no]at hr;cases hr
 have h2:a≠minS:=by rintro rfl;rw[min_no]at hr;cases hr
 refine⟨?_,h1,h2⟩;unfold zgJ;rw[Ye (by simp[h1,h2]),hk,hr];have hc:=cmp_is (a:=a) (b:=[48]) (x:=x) (u:=0) (y:=y) ⟨hy,n,d,hr,he⟩ ⟨hy,0,1,ratP_0,Zo⟩;have:0≤zbl a [48]:=by
  rw[hc];split
  ·omega
  rw[Ye Zo];omega
 simp[this]
def Is.nz {a:Str}{x y:Nat}(h:Is a x y)(hn:a≠[48]):0<x:=by
 rcases YR x with h0|h0
 ·subst h0;exact absurd h.zero hn
 exact h0
end Go.Proofs

namespace Go.Proofs
open Tryz Go.Ab Go.Pl Go.Cnt
def posB(a:Str):Bool:=(ratP a).isSome&&decide (0<zbl a [48])
def znw(a:Str)(h:a.length≤1000000000):PCall prog 112 [.str a] (.ret (.bool (posB a))):=by
 refine Xa (rs:=[.tmp 2]) [0,2] [] mixed (zf zfP (zf zsY zh)) (zg) call112 func112 rfl ntmps112 rfl ?_;unfold posB;cases hs:(ratP a).isSome with
 |false=>simp(disch:=try exact Zq)only[go_sem,hs]
 |true=>simp(disch:=try exact Zq)only[go_sem,hs]
def cPos:ZV:=zL (fun a:Str=>[.str a]) (fun a=>a.length≤1000000000) fun a=>.ret (.bool (posB a))
def zkv(a:Str)(h:a.length≤1000000000):cPos [.str a]=some (.ret (.bool (posB a))):=zo (pat:=fun a:Str=>[V.str a]) (fun x y h=>by simpa using h) a h
def cPos_ok:ZC cPos 112:=zn fun a h=>znw a h
def zd8:ZA:=[.str [],.str [],.bool false,.nilF,.nilF,.nilF,.nilF,.nilF]
def zds:ZA:=[.str infS,.str [48],.bool true,.fn 104 [],.fn 105 [],.fn 106 [],.fn 107 [],.fn 107 []]
def zdr:ZA:=[.str [48],.str [49],.bool false,.fn 108 [],.fn 109 [],.fn 110 [],.fn 111 [],.fn 112 []]
def ring3:ZA:=[.str [48],.str [49],.bool false,.fn 104 [],.fn 109 [],.fn 113 [],.fn 111 [],.fn 112 []]
theorem buK_n(z:Value)(parts:List (Nat×V))(H:Hp)(orig:AR):buK (some z) none parts H orig=orig:=rfl
def pl_ring4:zbx prog 130=none:=Zk
def zx5(H:Hp):zoS prog 130 [(1,.agg zds),(2,.agg zdr),(3,.agg ring3)] H=⟨True,.agg (zd8++zds++zdr++ring3),H,[],[]⟩:=Zk
def zrz:Pure .nilF↔True:=⟨fun _=>trivial,fun _=>.nilF⟩
def rings_ok:PCall prog 88 [] (.ret (.agg (zd8++zds++zdr++ring3))):=by have hb:=zx5;unfold zd8 zds zdr ring3 infS at hb ⊢;refine Xa (rs:=[.cell 0 130]) [0] [] mixed (zh) (zg) call88 func88 rfl ntmps88 rfl ?_;simp(disch:=try exact Zq)only[go_sem,buK_n,pl_ring4,hb];exact .pure (.agg (by simp[zO,zM,zcx,zrz]))
def cRings:ZV:=zL (fun _:Unit=>[]) (fun _=>True) fun _=>.ret (.agg (zd8++zds++zdr++ring3))
def zxn:cRings []=some (.ret (.agg (zd8++zds++zdr++ring3))):=zo (pat:=fun _:Unit=>([]:ZA)) (fun _ _ _=>rfl) () trivial
def ze5:ZC cRings 88:=zn fun _ _=>rings_ok
def zhV(k:Int):ZA:=if k=1 then zds else if k=2 then zdr else if k=3 then ring3 else zd8
def zvU:zcz 1=true:=Zd
def zvT:zcz 2=true:=Zd
def zvS:zcz 3=true:=Zd
def idx_1(H:Hp):zb0 prog 130 (.agg (zd8++zds++zdr++ring3)) (.int .i64 1) H=⟨True,.agg zds,H,[],[]⟩:=Zk
def idx_2(H:Hp):zb0 prog 130 (.agg (zd8++zds++zdr++ring3)) (.int .i64 2) H=⟨True,.agg zdr,H,[],[]⟩:=Zk
def idx_3(H:Hp):zb0 prog 130 (.agg (zd8++zds++zdr++ring3)) (.int .i64 3) H=⟨True,.agg ring3,H,[],[]⟩:=Zk
def of_ok(k:Int):PCall prog 77 [.int .i64 k] (.ret (.tup [.agg (zhV k),.bool (zcz k)])):=by
 have hc:=zxn;have i1:=idx_1;have i2:=idx_2;have i3:=idx_3;by_cases h1:k=1
 ·subst h1;show PCall _ _ _ (.ret (.tup [.agg zds,.bool true]));unfold zd8 zds zdr ring3 infS at*;simp only[Ya2,YaY]at hc i1 i2 i3;refine Xa (rs:=[.cell 2 121,.tmp 3]) [0,2,3,9] [] mixed (zf ze5 zh) (zg) zqd func77 rfl ntmps77 rfl ?_;simp(disch:=try exact Zq)only[go_sem,hc,i1];exact .pure (.agg (by simp[zO,zM,zcx,zrz]))
 by_cases h2:k=2
 ·subst h2;show PCall _ _ _ (.ret (.tup [.agg zdr,.bool true]));unfold zd8 zds zdr ring3 infS at*;simp only[Ya2,YaY]at hc i1 i2 i3;refine Xa (rs:=[.cell 2 121,.tmp 3]) [0,2,3,9] [] mixed (zf ze5 zh) (zg) zqd func77 rfl ntmps77 rfl ?_;simp(disch:=try exact Zq)only[go_sem,hc,i2];exact .pure (.agg (by simp[zO,zM,zcx,zrz]))
 by_cases h3:k=3
 ·subst h3;show PCall _ _ _ (.ret (.tup [.agg ring3,.bool true]));unfold zd8 zds zdr ring3 infS at*;simp only[Ya2,YaY]at hc i1 i2 i3;refine Xa (rs:=[.cell 2 121,.tmp 3]) [0,2,3,9] [] mixed (zf ze5 zh) (zg) zqd func77 rfl ntmps77 rfl ?_;simp(disch:=try exact Zq)only[go_sem,hc,i3];exact .pure (.agg (by simp[zO,zM,zcx,zrz]))
 have hk:zcz k=false:=by
  unfold zcz;by_cases h:1≤k
  ·rw[Yf h,Yd Zo];rfl
  rw[Yd h];rfl
 have hr:zhV k=zd8:=by unfold zhV;rw[Ye h1,Ye h2,Ye h3]
 rw[hk,hr];unfold zd8 zds zdr ring3 infS at*;simp only[Ya2,YaY]at hc i1 i2 i3;refine Xa (rs:=[.cell 2 121,.tmp 3]) [0,2,3,9] [] mixed (zf ze5 zh) (zg) zqd func77 rfl ntmps77 rfl ?_;by_cases h4:k<1
 ·have d1:decide (k<1)=true:=Yf h4;simp(disch:=try exact Zq)only[go_sem,hc,d1];exact .pure (.agg (by simp[zO,zM,zcx,zrz]))
 have d1:decide (k<1)=false:=Yd h4;have d2:decide (3<k)=true:=Yf Zo;simp(disch:=try exact Zq)only[go_sem,hc,d1,d2];exact .pure (.agg (by simp[zO,zM,zcx,zrz]))
def cOf:ZV:=zL (fun k:Int=>[.int .i64 k]) (fun _=>True) fun k=>.ret (.tup [.agg (zhV k),.bool (zcz k)])
def zqk(k:Int):cOf [.int .i64 k]=some (.ret (.tup [.agg (zhV k),.bool (zcz k)])):=zo (pat:=fun k:Int=>[V.int .i64 k]) (fun x y h=>by simpa using h) k trivial
def cOf_ok:ZC cOf 77:=zn fun k _=>of_ok k
def cmp_0 {a:Str}{s:Bool}{n d:Nat}(h:ratP a=some (s,n,d)):0<zbl a [48]↔(0≤zbl a [48]∧a≠[48]):=by
 have h0:ratP [48]=some (false,0,1):=ratP_0;obtain⟨hd,hgc,_,_⟩:=za7 h;have hz:n=0→s=false→a=[48]:=fun e1 e2=>by subst e1 e2;exact Is.zero (y:=1) ⟨Nat.one_pos,0,d,h,Zs⟩
 by_cases ha:a=[48]
 ·subst ha;have:zbl [48] [48]=0:=Zd;rw[this];simp
 simp only[ne_eq,ha,not_false_eq_true,Yad];unfold zbl;rw[h,h0];simp only[sumS];cases s with
 |false=>have:n≠0:=fun e=>ha (hz e rfl);simp[this]
 |true=>
  have hn:n≠0:=by
   rintro rfl;obtain rfl:d=1:=by simpa using hgc
   have ht:=zuG h;have e:a=[45,48]:=by rw[ht];rfl
   rw[e]at h;have:ratP [45,48]=none:=Zd;rw[this]at h;cases h
  simp[hn]
def sm_prog(k:Int)(a:Str):(zcz k&&(if k=1 then(ratP a).isSome else posB a))=zam k a:=by
 unfold zam zgJ posB;cases hk:zcz k with
 |false=>simp
 |true=>
  cases hr:ratP a with
  |none=>
   by_cases hi:a=infS
   ·simp[hi]
   by_cases hm:a=minS
   ·simp[hm]
   simp[hi,hm]
  |some q=>
   obtain⟨s,n,d⟩:=q;have h1:a≠infS:=by rintro rfl;rw[inf_no]at hr;cases hr
   have h2:a≠minS:=by rintro rfl;rw[min_no]at hr;cases hr
   by_cases k1:k=1
   ·simp[h1,h2,k1]
   have hc:=cmp_0 hr;simp[h1,h2,k1,hc]
theorem zxc(C:Cfg)(l:ZA)(nd:Prop)(H:Hp):callF C .nilF l nd H=.bad:=rfl
def ztE(k:Int)(a:Str)(h:a.length≤1000000000):PCall prog 52 [.int .i64 k,.str a] (.ret (.bool (zam k a))):=by
 rw[←sm_prog];refine Xa (rs:=[.tmp 4]) [0,1,4,5] [] mixed (zf cOf_ok (zf cPos_ok (zf zfP zh))) (zg) call52 func52 rfl ntmps52 rfl ?_;by_cases h1:k=1
 ·subst h1;have e1:zhV 1=zds:=rfl;rw[zvU];unfold zds infS at e1;simp(disch:=try exact Zq)only[go_sem,zqk,e1,zvU,zkv,zcp]
 by_cases h2:k=2
 ·subst h2;have e1:zhV 2=zdr:=rfl;rw[zvT];unfold zdr at e1;simp(disch:=try exact Zq)only[go_sem,zqk,e1,zvT,zkv,zcp]
 by_cases h3:k=3
 ·subst h3;have e1:zhV 3=ring3:=rfl;rw[zvS];unfold ring3 at e1;simp(disch:=try exact Zq)only[go_sem,zqk,e1,zvS,zkv,zcp]
 have hk:zcz k=false:=by
  unfold zcz;by_cases h:1≤k
  ·rw[Yf h,Yd Zo];rfl
  rw[Yd h];rfl
 have e1:zhV k=zd8:=by unfold zhV;rw[Ye h1,Ye h2,Ye h3]
 rw[hk];unfold zd8 at e1;simp(disch:=try exact Zq)only[go_sem,zqk,e1,hk,zkv,zcp,zxc]
def cSmW:ZV:=zL (fun p:Int×Str=>[.int .i64 p.1,.str p.2]) (fun p=>p.2.length≤1000000000) fun p=>.ret (.bool (zam p.1 p.2))
def zot(k:Int)(a:Str)(h:a.length≤1000000000):cSmW [.int .i64 k,.str a]=some (.ret (.bool (zam k a))):=zo (pat:=fun p:Int×Str=>[V.int .i64 p.1,.str p.2]) (fun x y h=>by simp at h;exact YaC h.1 h.2) (k,a) h
def cSmW_ok:ZC cSmW 52:=zn fun p h=>ztE p.1 p.2 h
end Go.Proofs

namespace Go.Proofs
open Go.Ab Go.Cnt Go.Pl Go.Tg
def k3:zcz 3=true:=Zd
def zero3:smZero 3=[48]:=Zd
def Is.small {a:Str}{x y:Nat}(h:Is a x y):∃n d,Is a n d∧n<10^400∧d<10^400:=by obtain⟨hy,n,d,hr,he⟩:=h;obtain⟨hd,_,l1,l2⟩:=za7 hr;exact⟨n,d,⟨hd,n,d,hr,rfl⟩,zbK (k:=400) l1,zbK (k:=400) l2⟩
section
variable {M:Mach}(hk:M.k=3)
include hk
end
end Go.Proofs



namespace Go.Proofs
open Go.Ab Go.Cnt Go.Pl Go.Tg
structure FitM(m:Mach):Prop where
 q:m.q.length≤1000000000
 a:∀s∈m.q,s.a.length≤1000000000
 l:m.l.length≤1000000000
 f:∀s∈m.q,s.f.length≤1000000000
 w:∀s∈m.q,∀a∈s.a,a.w.length≤1000000000
def sumA(q:List Sta)(i:Nat):Nat:=arcN (q.take i)
def zdx(q:List Sta)(i:Nat)(h:i<q.length):sumA q (i+1)=sumA q i+(nthQ q i).a.length:=by unfold sumA arcN;rw[staR.take_nth q i h,Yax,List.sum_append];simp[nthQ]
def zcF(q:List Sta){i j:Nat}(h:i≤j)(hj:j≤q.length):sumA q i≤sumA q j:=by
 induction j with
 |zero=>rw[show i=0 by omega];exact Yc _
 |succ j ih=>
  rcases YaJ j i with hl|hl
  ·rw[show i=j+1 by omega];exact Yc _
  rw[zdx q j Zo];exact Yw (ih hl Zo) Zo
def zbP(q:List Sta):sumA q q.length=arcN q:=by unfold sumA;rw[Ym]
end Go.Proofs
