/- A call's contract, with new blocks told as memory that stands still. -/
import Derived.Test.YthbimeikbkjnkaaGreatDoorT30
set_option linter.all false
set_option maxHeartbeats 16000000
set_option maxRecDepth 100000
namespace Go.Ab
theorem NCall.freeze {P:Program}{f:FuncId}{args:List V}{F:List Blk}{W:List Nat}{v0:V}{Hc0:Hp}(hN:NCall P f args F W v0 Hc0){v:V}{Hc:Hp}(fl:List Nat)
 (hfl:∀ b∈fl,F.length≤b∧∃ x,Hc0.get b=some x) (hW:∀ b∈W,∃ x,Hc0.get b=some x) (hv:Rn id (fun b=>¬b∈fl∧b<Hc.next) v v0∨FrzF Hc0 (· ∈fl) v0 v)
 (hh:∀ b x',Hc.get b=some x'→b<Hc.next∧¬b∈fl∧∃ x,Hc0.get b=some x∧FzB Hc0 (· ∈fl) Hc.next x' x) (hel:∀ b,b<F.length→Hc.get b=Hc0.get b) (hn:F.length≤Hc.next):NCall P f args F W v Hc:=by
 refine⟨hN.call,hN.sub,hn,fun g base w vs hgl hinv hvs hpw=>(hN.run g base w vs hgl hinv hvs hpw).mono fun e w' ⟨g1,vc,he,hv1,hp⟩=>?_⟩
 let C:Cfg:=⟨1,zbq [],noΓ,noΔ,F.length,W,zbq []⟩
 have hent:Entry C base (fun _=>True) g ⟨numB 0 F,F.length⟩ w:=⟨hinv,rfl,fun _ _=>trivial⟩
 have hr:Rel C base (fun _=>True) g ⟨numB 0 F,F.length⟩ w g1 ⟨[(0,v0)],Hc0⟩ { tmps:=#[vc],defers:=[] } w':=by
  refine⟨⟨hgl.mono hp.le.2,by simp [C],fun t x e=>?_⟩,rfl,hp⟩;rw [Yq]at e;by_cases ht:t=0
  ·subst ht;simp only [Yaz,Yv]at e;subst e;exact hv1
  ·have hb:(t==0)=false:=by simp [ht]
   simp only [hb]at e;cases e
 have henv:∀ t v',([(0,v)]:Env).lookup t=some v'→v'=.any∨∃ u,([(0,v0)]:Env).lookup t=some u∧(Rn id (fun b=>¬b∈fl∧b<Hc.next) v' u∨FrzF Hc0 (· ∈fl) u v'):=fun t v' e=>by
  rw [Yq]at e;by_cases ht:t=0
  ·subst ht;simp only [Yaz,Yv]at e;subst e;exact .inr ⟨v0,by simp,hv⟩
  ·have hb:(t==0)=false:=by simp [ht]
   simp only [hb]at e;cases e
 obtain⟨g2,h4⟩:=hr.freeze3 (F:=(· ∈fl)) (s':=⟨[(0,v)],Hc⟩) hent (fun b hb=>⟨hN.sub b hb,hW b hb⟩) ⟨henv,hh,hfl,hel,hn⟩
 exact⟨g2,vc,he,by simpa using h4.env.rel 0 v (by simp),h4.post⟩
end Go.Ab

namespace Go.Proofs
open Go.Ab Go.Cnt Go.Pl Go.Tg
end Go.Proofs

namespace Go.Ab
open Go.Cnt
variable {P:Program}{C:Cfg}{env:Env}{H:Hp}
def zoy:=@zaw
theorem zhu(t:TypeId)(x k v:Operand):step1 C P env (.mapUpdate t x k v) H=mkSR false ((ev env x).cond∧(ev env k).cond∧(ev env v).cond) (XR.ar H (zaw P t (ev env x).val (ev env k).val (ev env v).val H)) H:=zZ rfl (by simp [Op.operands,needs]) rfl
abbrev Ens:=List (Str×Int)
def mpS:Nat→Ens→List (Nat×V×V)
 |_,[]=>[]
 |i,e::l=>(i,.str e.1,.int .i64 e.2)::mpS (i+1) l
theorem zyH:∀(i:Nat) (l:Ens),(mpS i l).length=l.length
 |_,[]=>rfl
 |i,e::l=>by rw [mpS,Ym,zyH];rfl
attribute [go_sem] zhu zyH
end Go.Ab

namespace Go.Ab
variable {P:Program}{C:Cfg}{env:Env}{H:Hp}
def mapI(P:Program)(t:TypeId):Option V:=
 match mapT P t with
 |some (kt,et)=>(match keyT P kt (.int .i64 0),zaO P et with|true,some z=>some (cv z)|_,_=>none)
 |none=>none
theorem zlc {t:TypeId}{z:V}(h:mapI P t=some z)(n:Int):∃ kt et z0,mapT P t=some (kt,et)∧keyT P kt (.int .i64 n)=true∧zaO P et=some z0∧cv z0=z:=by
 unfold mapI at h;split at h
 ·rename_i kt et hm;split at h
  ·rename_i z0 hk hz;cases h;refine⟨kt,et,z0,hm,?_,hz,rfl⟩;unfold keyT zei at hk ⊢;simp only at hk ⊢;split at hk
   ·rename_i h2;simp_all
   ·rename_i h2;simp_all
   ·simp_all
   ·cases hk
  ·cases h
 ·cases h
def luF(o:Option (Option (Nat×V)))(z:V)(b:Nat)(H:Hp)(orig:Option XR):Option XR:=
 match o with
 |some (some p)=>some ⟨.tup [p.2,.bool true],H,[b],[]⟩
 |some none=>some ⟨.tup [z,.bool false],H,[b],[]⟩
 |none=>orig
def luI(o:Option V)(ob:Option Blk)(b:Nat)(x:Int)(H:Hp)(orig:Option XR):Option XR:=
 match o,ob with
 |some z,some (.mp es _)=>luF (zcp (.int .i64 x) es 0) z b H orig
 |_,_=>orig
theorem ztq(t:TypeId)(b:Nat)(x:Int)(bs:List (Nat×Blk))(n:Nat):zaP P t (.map b) (.int .i64 x) true ⟨bs,n⟩=luI (mapI P t) (zas bs b) b x ⟨bs,n⟩ (zqR P t (.map b) (.int .i64 x) true ⟨bs,n⟩):=by
 unfold luI;split
 ·rename_i z es c hf ho;obtain⟨kt,et,z0,h1,h2,h3,h4⟩:=zlc hf x;have hg:(⟨bs,n⟩:Hp).get b=some (.mp es c):=(zbg bs b).trans ho;unfold luF;split
  ·rename_i p hp;unfold zaP;simp only [h1,h2,h3,hg,hp];rfl
  ·rename_i hp;unfold zaP;simp only [h1,h2,h3,hg,hp,h4];rfl
  ·rfl
 ·rfl
theorem luI_mp(z:V)(es:List (Nat×V×V))(c b:Nat)(x:Int)(orig:Option XR):luI (some z) (some (.mp es c)) b x H orig=luF (zcp (.int .i64 x) es 0) z b H orig:=rfl
theorem luF_s(p:Nat×V)(z:V)(b:Nat)(orig:Option XR):luF (some (some p)) z b H orig=some ⟨.tup [p.2,.bool true],H,[b],[]⟩:=rfl
theorem luF_n(z:V)(b:Nat)(orig:Option XR):luF (some none) z b H orig=some ⟨.tup [z,.bool false],H,[b],[]⟩:=rfl
def muF(o:Option (Option (Nat×V)))(es:List (Nat×V×V))(clock b:Nat)(x:Int)(v:V)(H:Hp)(orig:Option XR):Option XR:=
 match o with
 |some none=>some ⟨undefV,H.put b (.mp (es++[(clock,.int .i64 x,v)]) (clock+1)),[b],[b]⟩
 |_=>orig
def muI(o:Option V)(ob:Option Blk)(b:Nat)(x:Int)(v:V)(H:Hp)(orig:Option XR):Option XR:=
 match o,ob with
 |some _,some (.mp es clock)=>muF (zcp (.int .i64 x) es 0) es clock b x v H orig
 |_,_=>orig
theorem zkB(t:TypeId)(b:Nat)(x:Int)(v:V)(bs:List (Nat×Blk))(n:Nat):zaw P t (.map b) (.int .i64 x) v ⟨bs,n⟩=muI (mapI P t) (zas bs b) b x v ⟨bs,n⟩ (zoy P t (.map b) (.int .i64 x) v ⟨bs,n⟩):=by
 unfold muI;split
 ·rename_i z es c hf ho;obtain⟨kt,et,z0,h1,h2,h3,h4⟩:=zlc hf x;have hg:(⟨bs,n⟩:Hp).get b=some (.mp es c):=(zbg bs b).trans ho;unfold muF;split
  ·rename_i hp;unfold zaw;simp only [h1,h2,hg,hp]
  ·rfl
 ·rfl
theorem muI_mp(z:V)(es:List (Nat×V×V))(c b:Nat)(x:Int)(v:V)(orig:Option XR):muI (some z) (some (.mp es c)) b x v H orig=muF (zcp (.int .i64 x) es 0) es c b x v H orig:=rfl
theorem muF_n(es:List (Nat×V×V))(c b:Nat)(x:Int)(v:V)(orig:Option XR):muF (some none) es c b x v H orig=some ⟨undefV,H.put b (.mp (es++[(c,.int .i64 x,v)]) (c+1)),[b],[b]⟩:=rfl
theorem zmi(t:TypeId)(x k v:Operand):step1 C P env (.insert t x k v) H=mkSR false ((ev env x).cond∧(ev env k).cond∧(ev env v).cond) (XR.ar H (zaw P t (ev env x).val (ev env k).val (ev env v).val H)) H:=zZ rfl (by simp [Op.operands,needs]) rfl
def mpI:Nat→List V→List (Nat×V×V)
 |_,[]=>[]
 |i,v::l=>(i,.int .i64 i,v)::mpI (i+1) l
theorem zjB:∀(i:Nat) (l:List V) (v:V),mpI i l++[(i+l.length,.int .i64 (i+l.length:Nat),v)]=mpI i (l++[v])
 |i,[],v=>rfl
 |i,w::l,v=>by rw [mpI,YbE,YbE,mpI,Ym,show i+(l.length+1)=i+1+l.length by omega,zjB (i+1) l v]
theorem zpy(a b:Int):zyT (.int .i64 a) (.int .i64 b)=some (decide (a=b)):=by show some _=_;congr 1
theorem zfI(x:Nat):∀(i:Nat) (l:List V) (j:Nat),i≤x→zcp (.int .i64 x) (mpI i l) j=some (match l[x - i]? with|some v=>some (j+(x - i),v)|none=>none)
 |i,[],j,_=>by simp [mpI,zcp]
 |i,v::l,j,h=>by
  rw [mpI,zcp,zpy];by_cases hx:i=x
  ·subst hx;simp
  ·have e1:decide ((i:Int)=(x:Int))=false:=Yy (by omega);have e2:decide ((x:Int)=(i:Int))=false:=Yy (by omega);simp only [e1,e2];rw [zfI x (i+1) l (j+1) (by omega),show x - i=(x - (i+1))+1 by omega,Yas,show j+1+(x - (i+1))=j+(x - (i+1)+1)by omega]
attribute [go_sem] ztq luI_mp luF_s luF_n zkB muI_mp muF_n zmi
end Go.Ab

namespace Go.Proofs
open Go.Ab Go.Cnt Go.Pl Go.Tg
def befE(n t:Nat)(fst:V)(l:List V):List (Nat×V×V):=if t=0 then [(0,.int .i64 n,fst)]else mpI 0 l
def zCk(es:List (Nat×V×V)):Prop:=∀ e∈es,Pure e.2.1∧Pure e.2.2
theorem zbU {π:Nat→Nat}{N:Nat→Prop}{es:List (Nat×V×V)}(c:Nat)(h:zCk es):RnB π N (.mp es c) (.mp es c):=
 .mp rfl (zt fun x hx=>by obtain⟨e,he,rfl⟩:=Yab.1 hx;exact(h e he).1) (zt fun x hx=>by obtain⟨e,he,rfl⟩:=Yab.1 hx;exact(h e he).2)
theorem zg2:∀(i:Nat) (l:List V),(∀ x∈l,Pure x)→zCk (mpI i l)
 |_,[],_,e,h=>by cases h
 |i,v::l,hl,e,h=>by
  rcases YA.1 h with rfl|h
  ·exact⟨.int _ _,hl v (by simp)⟩
  ·exact zg2 (i+1) l (fun x hx=>hl x (by simp [hx])) e h
theorem zBr {n t:Nat}{v:V}{l:List V}(hv:Pure v)(hl:∀ x∈l,Pure x):zCk (befE n t v l):=by
 unfold befE;split
 ·intro e h;rw [Yah.1 h];exact⟨.int _ _,hv⟩
 ·exact zg2 0 l hl
theorem zuU(k:V)(j:Nat):zcp k [] j=some none:=rfl
end Go.Proofs

namespace Go.Ab
variable {P:Program}{C:Cfg}{env:Env}{H:Hp}
def ljF(o:Option (Option (Nat×V)))(z:V)(b:Nat)(H:Hp)(orig:Option XR):Option XR:=
 match o with
 |some (some p)=>some ⟨p.2,H,[b],[]⟩
 |some none=>some ⟨z,H,[b],[]⟩
 |none=>orig
def ljI(o:Option V)(ob:Option Blk)(b:Nat)(x:Int)(H:Hp)(orig:Option XR):Option XR:=
 match o,ob with
 |some z,some (.mp es _)=>ljF (zcp (.int .i64 x) es 0) z b H orig
 |_,_=>orig
theorem ztp(t:TypeId)(b:Nat)(x:Int)(bs:List (Nat×Blk))(n:Nat):zaP P t (.map b) (.int .i64 x) false ⟨bs,n⟩=ljI (mapI P t) (zas bs b) b x ⟨bs,n⟩ (zqR P t (.map b) (.int .i64 x) false ⟨bs,n⟩):=by
 unfold ljI;split
 ·rename_i z es c hf ho;obtain⟨kt,et,z0,h1,h2,h3,h4⟩:=zlc hf x;have hg:(⟨bs,n⟩:Hp).get b=some (.mp es c):=(zbg bs b).trans ho;unfold ljF;split
  ·rename_i p hp;unfold zaP;simp only [h1,h2,h3,hg,hp];rfl
  ·rename_i hp;unfold zaP;simp only [h1,h2,h3,hg,hp,h4];rfl
  ·rfl
 ·rfl
theorem ljI_mp(z:V)(es:List (Nat×V×V))(c b:Nat)(x:Int)(orig:Option XR):ljI (some z) (some (.mp es c)) b x H orig=ljF (zcp (.int .i64 x) es 0) z b H orig:=rfl
theorem ljF_s(p:Nat×V)(z:V)(b:Nat)(orig:Option XR):ljF (some (some p)) z b H orig=some ⟨p.2,H,[b],[]⟩:=rfl
theorem ljF_n(z:V)(b:Nat)(orig:Option XR):ljF (some none) z b H orig=some ⟨z,H,[b],[]⟩:=rfl
theorem rgK_f(o:Option Blk)(b:Nat)(orig:Option XR):rgK false o b H orig=orig:=rfl
def rgI(o:Option V)(ob:Option Blk)(b:Nat)(H:Hp)(orig:Option XR):Option XR:=
 match o,ob with
 |some _,some (.mp es clock)=>some ⟨.ptr H.next 0,H.new (.it (some b) (es.map (·.1)) (es.map (·.1)) clock clock none),[b],[]⟩
 |_,_=>orig
def xRange1:=@zcB
theorem zxg(t:TypeId)(b:Nat)(bs:List (Nat×Blk))(n:Nat):zox P t (.map b) ⟨bs,n⟩=rgI (mapI P t) (zas bs b) b ⟨bs,n⟩ (xRange1 P t (.map b) ⟨bs,n⟩):=by
 unfold rgI;split
 ·rename_i z es c hf ho;obtain⟨kt,et,z0,h1,h2,h3,h4⟩:=zlc hf 0;have hg:(⟨bs,n⟩:Hp).get b=some (.mp es c):=(zbg bs b).trans ho;unfold zox zcB;simp only [h1,hg]
 ·rfl
theorem rgI_mp(z:V)(es:List (Nat×V×V))(c b:Nat)(orig:Option XR):rgI (some z) (some (.mp es c)) b H orig=some ⟨.ptr H.next 0,H.new (.it (some b) (es.map (·.1)) (es.map (·.1)) c c none),[b],[]⟩:=rfl
attribute [go_sem] ztp ljI_mp ljF_s ljF_n rgK_f zxg rgI_mp
end Go.Ab

namespace Go.Proofs
open Tryz Go.Ab Go.Cnt Go.Pl Go.Tg
theorem Tryz.mapII:mapI prog 79=some (.int .i64 0):=by kernel_rfl
theorem Tryz.mapSI:mapSS prog 79=false:=by kernel_rfl
attribute [go_sem] Tryz.mapII Tryz.mapSI
theorem semiOne:PCall prog 46 [.int .i64 3] (.ret (.str [49])):=E1_ok (n:=60) (fun x h=>by rw [Yah.1 h];exact .int _ _) (by kernel_rfl)
noncomputable def cSOne:List V→Option PR:=zu (fun _:Unit=>[.int .i64 3]) (fun _=>True) fun _=>.ret (.str [49])
@[go_sem] theorem cSOne_eq:cSOne [.int .i64 3]=some (.ret (.str [49])):=zo (pat:=fun _:Unit=>[.int .i64 3]) (fun _ _ _=>rfl) () trivial
theorem cSOne_ok:∀ args r,cSOne args=some r→PCall prog 46 args r:=zn fun _ _=>semiOne
def arV(l:List Arc):V:=if l=[]then .nilS else .fs (arcs l) l.length
theorem zBL:arV []=.nilS:=rfl
theorem arV_ne {l:List Arc}(h:l≠[]):arV l=.fs (arcs l) l.length:=Yd h
theorem arV_pure(l:List Arc):Pure (arV l):=by
 unfold arV;split
 ·exact .nilS
 ·exact .fs (zes l)
def stnR:Row Sta where
 enc s:=[.str s.f,arV s.a]
 n:=2
 dflt:=⟨[],[]⟩
 len _:=rfl
 pos:=by decide
 pure a x h:=by
  simp only [YA,Y1,Ya0]at h;rcases h with rfl|rfl
  ·exact .str _
  ·exact arV_pure _
 one a:=by simp only [YbO,YcT,Yaw];unfold arV;split<;>rfl
 inj a b h:=by
  obtain⟨a1,a2⟩:=a;obtain⟨b1,b2⟩:=b;simp only [Yu,V.str.injEq,Yam]at h;obtain⟨rfl,h⟩:=h;unfold arV at h;split at h<;>split at h
  ·rename_i h1 h2;rw [h1,h2]
  ·cases h
  ·cases h
  ·simp only [V.fs.injEq]at h;rw [arcs_inj h.1]
def stns(l:List Sta):List V:=stnR.cells l
theorem zct(l:List Sta):(stns l).length=l.length*2:=stnR.len_cells l
theorem zd6(l:List Sta):∀ x∈stns l,Pure x:=stnR.pure_cells l
theorem stns_rn {π:Nat→Nat}{N:Nat→Prop}(l:List Sta):LRel (Rn π N) (stns l) (stns l)↔True:=stnR.lrel_cells l
attribute [go_sem] zct stns_rn
theorem stns_app(a b:List Sta):stns (a++b)=stns a++stns b:=stnR.cells_append a b
theorem stns_one:stns [⟨[],[]⟩]=[.str [],.nilS]:=rfl
theorem nthQ_mem {q:List Sta}{s:Nat}(h:s<q.length):nthQ q s∈q:=staR.nth_mem h
theorem zhs:∀(q:List Sta) (s:Nat) (l:List Arc),s<q.length→(stns q).set (s*2+1) (arV l)=stns (q.set s ⟨(nthQ q s).f,l⟩)
 |[],_,_,h=>by simp at h
 |x::q,0,l,_=>rfl
 |x::q,s+1,l,h=>by
  have ih:=zhs q s l (by simpa using h);have e:nthQ (x::q) (s+1)=nthQ q s:=by simp [nthQ,Row.nth]
  rw [e,YbH];show ((V.str x.f)::arV x.a::stns q).set ((s+1)*2+1) (arV l)=V.str x.f::arV x.a::stns (q.set s ⟨(nthQ q s).f,l⟩);rw [show (s+1)*2+1=s*2+1+1+1 by omega,YbH,YbH,ih]
theorem zme:∀(q:List Sta) (s:Nat) (f:Str),s<q.length→(stns q).set (s*2) (.str f)=stns (q.set s ⟨f,(nthQ q s).a⟩)
 |[],_,_,h=>by simp at h
 |x::q,0,f,_=>rfl
 |x::q,s+1,f,h=>by
  have ih:=zme q s f (by simpa using h);have e:nthQ (x::q) (s+1)=nthQ q s:=by simp [nthQ,Row.nth]
  rw [e,YbH];show ((V.str x.f)::arV x.a::stns q).set ((s+1)*2) (.str f)=V.str x.f::arV x.a::stns (q.set s ⟨f,(nthQ q s).a⟩);rw [show (s+1)*2=s*2+1+1 by omega,YbH,YbH,ih]
def slA(b:Nat)(l:List Arc):V:=if l=[]then .nilS else .sl b 0 l.length 4 none
def blkA(b:Nat)(l:List Arc)(r:List (Nat×Blk)):List (Nat×Blk):=if l=[]then r else(b,.cells (arcs l))::r
theorem zkr(b:Nat):slA b []=.nilS:=rfl
theorem zg9(b:Nat)(r:List (Nat×Blk)):blkA b [] r=r:=rfl
theorem zmn(b:Nat){l:List Arc}(h:l≠[]):slA b l=.sl b 0 l.length 4 none:=Yd h
theorem ziy(b:Nat){l:List Arc}(h:l≠[])(r:List (Nat×Blk)):blkA b l r=(b,.cells (arcs l))::r:=Yd h
theorem zmf(q:List Sta)(s:Nat)(h:s<q.length)(v:V):nthV ((stns q).set (s*2+1) v) (s*2+1)=v:=by rw [zce,Ybn,Yf rfl,Yf (by rw [zct];omega)];rfl
theorem zw2 {α:Type}(l:List α)(i:Nat)(a b:α):(l.set i a).set i b=l.set i b:=by simp
theorem stns_id {q:List Sta}{s:Nat}(h:s<q.length)(ha:(nthQ q s).a=[]):(stns q).set (s*2+1) .nilS=stns q:=by
 rw [←zBL,zhs q s [] h, ←ha];congr 1;have e:nthQ q s=q[s]:=by unfold nthQ Row.nth;rw [Ya,Yb h];rfl
 rw [e];exact List.set_getElem_self h
theorem frz_stns {H:Hp}{b:Nat}(q:List Sta){n:Nat}(hn:n=q.length)(hg:H.get b=some (.cells (stns q))):Frz H (.sl b 0 n 2 none) (.fs (stas q) n):=by
 subst hn;refine .sl hg (by rw [zct];omega) (by rw [zq6]) fun i x y hx hy=>?_;rw [Y2,Yj (by rw [zct];exact Ye _)]at hx;have key:∀(q:List Sta) (i:Nat) (x y:V),(stns q)[i]? =some x→(stas q)[i]? =some y→Frz H x y:=by
  intro q;induction q with
  |nil=>intro i x y hx _;simp [stns,Row.cells]at hx
  |cons s q ih=>
   intro i x y hx hy;have e1:stns (s::q)=V.str s.f::arV s.a::stns q:=rfl;have e2:stas (s::q)=V.str s.f::.fs (arcs s.a) s.a.length::stas q:=rfl;rw [e1]at hx;rw [e2]at hy;match i with
   |0=>cases hx;cases hy;exact .pure (.str _)
   |1=>
    simp only [Yas,YcR,Yv]at hx hy;subst hx hy;unfold arV;split
    ·rename_i h;rw [h];exact .nil0
    ·exact .pure (.fs (zes _))
   |i+2=>exact ih i x y (by simpa using hx) (by simpa using hy)
 exact key q i x y hx hy
theorem zhH(m:Mdl)(c b t:Nat)(s:MS)(hl:1+t*m.tags.length≤s.q.length):∀ i k,(∀ i',i'<i→befI m.tags.length t i'≠some k)→nthQ (rowM m c b t s i).q k=nthQ s.q k
 |0,_,_=>rfl
 |i+1,k,h=>by
  have ih:=zhH m c b t s hl i k fun i' hi=>h i' (by omega);rw [rowM];cases hb:befI m.tags.length t i with
  |none=>exact ih
  |some z=>dsimp only;rw [zkW (by rw [zdx];have:=(zb8 hb).2.1;omega),Yd,ih];rintro rfl;exact h i (by omega) hb
theorem zwm(m:Mdl)(cs:List Nat):∀ t k,lastB m.tags.length t≤k→nthQ (wrdM m cs t).q k=⟨[],[]⟩
 |0,k,_=>by
  match k with
  |0=>rfl
  |k+1=>exact zfu (by simp [wrdM])
 |t+1,k,h=>by have hlen:=zbn m cs t;have hlb:=zdh (n:=m.tags.length) (show t<t+1 from Yat t);rw [wrdM,zhH _ _ _ _ _ (by show _≤((wrdM m cs t).q++_).length;rw [Yi];omega) _ k fun i' _ he=>by have:=(zb8 he).2.1;omega];show nthQ ((wrdM m cs t).q++_) k=_;rw [zkX];exact zfu (by omega)
theorem rowM_cur {m:Mdl}{c b t:Nat}{s:MS}(hl:1+t*m.tags.length≤s.q.length)(hs:∀ k,lastB m.tags.length t≤k→nthQ s.q k=⟨[],[]⟩){i k:Nat}(hk:befI m.tags.length t i=some k):nthQ (rowM m c b t s i).q k=⟨[],[]⟩∧k<(rowM m c b t s i).q.length:=by have:=zb8 hk;refine⟨?_,by rw [zdx];omega⟩;rw [zhH m c b t s hl i k fun i' hi he=>by have:=zso hk he;omega];exact hs k this.2.2
theorem zxa(m:Mdl)(c b t:Nat){s:MS}(hs:∀ x∈s.q,x.f=[]):∀ i,∀ x∈(rowM m c b t s i).q,x.f=[]
 |0=>hs
 |i+1=>by
  rw [rowM];split
  ·exact zxa m c b t hs i
  ·intro x hx;rcases zpq hx with hx|rfl
   ·exact zxa m c b t hs i x hx
   ·rfl
theorem zwn(m:Mdl)(cs:List Nat):∀ t,∀ x∈(wrdM m cs t).q,x.f=[]
 |0=>fun x h=>by
  have:x=⟨[],[]⟩:=by simpa [wrdM] using h
  subst this;rfl
 |t+1=>by
  rw [wrdM];refine zxa m _ _ _ (fun x hx=>?_) _;rcases Yaf.1 hx with hx|hx
  ·exact zwn m cs t x hx
  ·obtain⟨_,rfl⟩:=YbG.1 hx;rfl
theorem zlU(m:Mdl)(c b i:Nat)(f:Int):∀ j,(arcF m c b i f j).1.length≤j
 |0=>by simp [arcF]
 |j+1=>by
  have:=zlU m c b i f j;rw [arcF];dsimp only;split
  ·omega
  ·simp;omega
theorem zxb(m:Mdl)(c b t:Nat)(s:MS):∀ i,(rowM m c b t s i).c≤s.c+i*m.tags.length
 |0=>by simp [rowM]
 |i+1=>by
  have ih:=zxb m c b t s i;rw [rowM];split
  ·rw [YV,YaI];omega
  ·have:=zlU m c b i (rowM m c b t s i).f m.tags.length;rw [YV,YaI];dsimp only;omega
theorem wrdM_c(m:Mdl)(cs:List Nat):∀ t,(wrdM m cs t).c≤t*((m.tags.length+1)*m.tags.length)
 |0=>by simp [wrdM]
 |t+1=>by have ih:=wrdM_c m cs t;have:=zxb m (cs.getD t 0) (wrdM m cs t).q.length t (newM m.tags.length (wrdM m cs t)) (m.tags.length+1);rw [wrdM,YV,YaI];have e:(newM m.tags.length (wrdM m cs t)).c=(wrdM m cs t).c:=rfl;omega
def zld(n t:Nat):List V:=(List.range n).map fun j=>.int .i64 (lastB n t+j:Nat)
def zbA(n t:Nat):List (Nat×V×V):=befE n t (.int .i64 0) (zld n t)
theorem zfC(n t:Nat):(zld n t).length=n:=by simp [zld]
theorem zun(n t:Nat):∀ x∈zld n t,Pure x:=fun x h=>by obtain⟨j,_,rfl⟩:=Yab.1 h;exact .int _ _
theorem zyO(n t i:Nat):∃ k,zcp (.int .i64 i) (zbA n t) 0=some (match befI n t i with|some s=>some (k,.int .i64 s)|none=>none):=by
 unfold zbA befE befI;by_cases ht:t=0
 ·rw [Yf ht,Yf ht];by_cases hi:i=n
  ·subst hi;exact⟨0,by simp [zcp,zpy]⟩
  ·refine⟨0,?_⟩;have h1:¬((i:Int)=(n:Int)):=by omega
   have h2:¬((n:Int)=(i:Int)):=by omega
   simp [zcp,zpy,hi,h1,h2]
 ·rw [Yd ht,Yd ht,zfI i 0 _ 0 (Yk _),Ybo];by_cases hi:i<n
  ·refine⟨i,?_⟩;unfold zld lastB;rw [YX,YbQ hi,Yd ht,Yf hi,Yal];rfl
  ·refine⟨0,?_⟩;rw [Yd hi,Ys (by rw [zfC];omega)]
theorem mpI_mem {v:List V}:∀ {i:Nat} {e:Nat×V×V},e∈mpI i v→∃ k,k<v.length∧e=(i+k,.int .i64 (i+k:Nat),v.getD k .any):=by
 induction v with
 |nil=>intro i e h;cases h
 |cons a v ih=>
  intro i e h;rw [mpI]at h;rcases YA.1 h with rfl|h
  ·exact⟨0,by simp,rfl⟩
  ·obtain⟨k,hk,rfl⟩:=ih h;exact⟨k+1,by simpa using hk,by simp only [List.getD_cons_succ];rw [show i+1+k=i+(k+1)by omega]⟩
theorem mpI_born {v:List V}:∀ {i k:Nat},k<v.length→zcf (i+k) (mpI i v)=some (.int .i64 (i+k:Nat),v.getD k .any):=by
 induction v with
 |nil=>intro i k h;simp at h
 |cons a v ih=>
  intro i k h;unfold mpI zcf;match k with
  |0=>rw [show Nat.beq (i,V.int .i64 i,a).1 (i+0)=true by simp];rfl
  |k+1=>
   rw [show Nat.beq (i,V.int .i64 i,a).1 (i+(k+1))=false by
    show Nat.beq i (i+(k+1))=false;cases e:Nat.beq i (i+(k+1))with
    |false=>rfl
    |true=>have:=Yad e;omega]
   show zcf (i+(k+1)) (mpI (i+1) v)=_;rw [show i+(k+1)=i+1+k by omega,ih (by simpa using h)];rfl
theorem last_mem {n t:Nat}{e:Nat×V×V}(h:e∈zbA n t):∃ k,k<zaF n t∧e=(k,.int .i64 (ze4 n t k:Nat),.int .i64 (lastB n t+k:Nat)):=by
 unfold zbA befE at h;unfold zaF ze4 lastB;by_cases ht:t=0
 ·rw [Yf ht]at h;rw [Yf ht,Yf ht];exact⟨0,Nat.one_pos,by rw [Yah.1 h,Yf ht];rfl⟩
 ·rw [Yd ht]at h;rw [Yd ht,Yd ht];obtain⟨k,hk,rfl⟩:=mpI_mem h;rw [zfC]at hk;refine⟨k,hk,?_⟩;rw [Yd ht,Yal];unfold zld lastB;rw [Ya,YX,YbQ hk,Yd ht];rfl
theorem zyP {n t k:Nat}(hk:k<zaF n t):zcf k (zbA n t)=some (.int .i64 (ze4 n t k:Nat),.int .i64 (lastB n t+k:Nat)):=by
 unfold zaF at hk;unfold zbA befE ze4;by_cases ht:t=0
 ·rw [Yf ht]at hk ⊢;rw [Yf ht];obtain rfl:k=0:=by omega
  unfold lastB;rw [Yf ht];rfl
 ·rw [Yd ht]at hk ⊢;rw [Yd ht];have:=mpI_born (v:=zld n t) (i:=0) (k:=k) (by rw [zfC];exact hk);rw [Yal]at this;rw [this];unfold zld;rw [Ya,YX,YbQ hk];rfl
theorem ze3(n t:Nat):(zbA n t).map (·.1)=List.range (zaF n t):=by
 unfold zbA befE zaF;by_cases ht:t=0
 ·rw [Yf ht,Yf ht];rfl
 ·rw [Yd ht,Yd ht];have:∀(v:List V) (i:Nat),(mpI i v).map (·.1)=(List.range v.length).map (i+·):=by
   intro v;induction v with
   |nil=>intro i;rfl
   |cons a v ih=>intro i;rw [mpI,YM,ih,Ym,List.range_succ_eq_map,YM,YcJ];simp only [Y5,Yu,Yan];apply YbR;intro j _;show i+1+j=i+(j+1);omega
  rw [this,zfC];simp
theorem zge(n t:Nat):zCk (zbA n t):=zBr (.int _ _) (zun n t)
end Go.Proofs
