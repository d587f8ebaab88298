/- The contract of a call that reads or writes blocks of the caller's, or hands out new ones: walked once, with the blocks numbered from 0; carried to any heap. -/
import Derived.Test.YtbdlfegfepggnaaGreatDoorAbExec
set_option linter.all false
set_option maxHeartbeats 16000000
set_option maxRecDepth 100000
noncomputable section
namespace Go.Ab
def numB:Nat→List Blk→ZH
 |_,[]=>[]
 |i,x::r=>(i,x)::numB (i+1) r
def zc9:∀(i:Nat)(l:List Blk)(t:Nat),(numB i l).lookup t=if i≤t then l[t-i]? else none
 |i,[],t=>by simp[numB]
 |i,a::r,t=>by
  rw[numB,YE];by_cases ht:t=i
  ·subst ht;simp
  have hb:(t==i)=false:=by simp[ht]
  simp only[hb,zc9 (i+1) r t];by_cases hi:i+1≤t
  ·rw[Yi hi,Yi Zo,show t-i=(t-(i+1))+1 by omega];simp
  rw[Ye hi,Ye Zo]
structure NCall(P:Program)(f:FuncId)(args:ZA)(F:List Blk)(W:ZN)(v:V)(Hc:Hp):Prop where
 call:zk P f
 sub:∀b∈W,b<F.length
 le:F.length≤Hc.next
 run:∀(g:G)(base:Nat)(w:World)(vs:Array Value),GOK g→Inv g base ⟨numB 0 F,F.length⟩ (fun _=>True) w→vs.size=args.length→PW g args (fun i=>vs[i]?)→
  Calls P f vs w fun e w'=>∃g' vc,e=.returned vc∧VRel g' v vc∧Post g g' base ⟨numB 0 F,F.length⟩ Hc (fun _=>True) W w w'
def NCall.of {P:Program}{C:Cfg}{f:FuncId}{fn:Func}{c:Code}{args:ZA}{F:List Blk}{v:V}{Hc:Hp}(hc:zk P f)(hf:P.funcs[f]? =some fn)(hb:fn.body=some c)(hnt:fn.ntmps=C.nt) (hle:args.length≤C.nt) (hnx:C.nx=F.length) (hW:∀b∈C.Wm,b<F.length) (hn:F.length≤Hc.next) (hdl:C.dl=[]) (h:AX C P c ⟨zcq 0 args,⟨numB 0 F,F.length⟩⟩ (fun o s=>(o=.norm∨o=.ret)∧∃s',Sub C s s'∧s'.h=Hc∧resP P fn s'∧resV P fn s'=v)):NCall P f args F C.Wm v Hc:=by
 refine⟨hc,hW,hn,fun g base w vs hgl hinv hvs hpw=>calls_of_wp hf hb ?_⟩;have he:Entry C base (fun _=>True) g ⟨numB 0 F,F.length⟩ w:=⟨hinv,hnx.symm,fun _ _=>trivial⟩;have hpost:Post g g base ⟨numB 0 F,F.length⟩ ⟨numB 0 F,F.length⟩ (fun _=>True) C.Wm w w:=(Post.refl hinv rfl rfl ⟨rfl,Yc _⟩ rfl).weaken (fun _ h=>by cases h);have hr:Rel C base (fun _=>True) g ⟨numB 0 F,F.length⟩ w g ⟨zcq 0 args,⟨numB 0 F,F.length⟩⟩ { tmps:=vs++Array.replicate (fn.ntmps-vs.size) undef,defers:=[] } w:=by
  refine⟨⟨hgl,by simp;omega,fun t v e=>?_⟩,hdl.symm,hpost⟩;obtain⟨_,h1⟩:=zdk 0 args t v e;have hlt:=(Ys.1 h1).1;obtain⟨u,hu,ru⟩:=hpw _ _ h1;have hu':vs[t]? =some u:=hu;have:(vs++Array.replicate (fn.ntmps-vs.size) undef).getD t undef=u:=by rw[YU,YaS (by simp at hlt;omega),hu'];rfl
  rw[this];exact ru
 refine wp_mono (h base _ g _ w g _ w he hr) fun e a w' ⟨o,s,g1,h1,h2,h3⟩=>?_;obtain⟨ho,s',hsub,rfl,hrp,rfl⟩:=h1;obtain⟨g2,h4⟩:=h3.sub he hsub;obtain⟨vc,hrun,hv⟩:=zft (P:=P) (w:=w') h4.post.inv (fun b=>.inl trivial) hrp h4.env;have fin:a.defers=[]∧∃v,(results fn a.tmps).run P w'=.ok v w'∧∃g' vc,Ending.returned v=.returned vc∧VRel g' (resV P fn s') vc∧Post g g' base ⟨numB 0 F,F.length⟩ s'.h (fun _=>True) C.Wm w w':=
  ⟨h4.defers.trans hdl,vc,hrun,g2,vc,rfl,hv,h4.post⟩
 rcases ho with rfl|rfl<;>cases e<;>first|exact h2.elim|exact fin
def zu(is:ZN)(n:Nat)(b:Nat):Nat:=if b<n then is.idxOf b else b-n+is.length
def HCall.of {P:Program}{f:FuncId}{args:ZA}{F:List Blk}{W:ZN}{v:V}{Hc:Hp}(hN:NCall P f args F W v Hc)(is:ZN)(args':ZA)(v':V)(H H':Hp)(hlen:is.length=F.length)(hnd:is.Nodup) (ha:LRel (Rn (fun i=>is.getD i 0) (· <F.length)) args args') (hF:∀(i:Nat)(x:Blk),F[i]? =some x→∃b y,is[i]? =some b∧H.get b=some y∧RnB (fun i=>is.getD i 0) (· <F.length) x y) (hv:Rn (zu is H.next) (fun b=>b∈is∨(H.next≤b∧b<H'.next)) v' v) (hn:H'.next+F.length=H.next+Hc.next) (hH:∀b x',H'.get b=some x'→(b<H.next∧b∉is∧H.get b=some x')∨((b∈is∨(H.next≤b∧b<H'.next))∧∃x,Hc.get (zu is H.next b)=some x∧RnB (zu is H.next) (fun b=>b∈is∨(H.next≤b∧b<H'.next)) x' x)) (hfr:∀b,b<H.next→b∉W.map (fun i=>is.getD i 0)→H'.get b=H.get b):HCall P f args' H ⟨True,v',H',is,W.map (fun i=>is.getD i 0)⟩:=by
 have hle:H.next≤H'.next:=by have:=hN.le;omega
 have isH:∀b∈is,∃y,H.get b=some y:=by intro b hb;obtain⟨i,hi,rfl⟩:=YaB.1 hb;obtain⟨b',y,e,hy,_⟩:=hF i F[i] (by rw[Yb]);rw[Yb hi]at e;cases e;exact⟨y,hy⟩
 have wIn:∀b∈W.map (fun i=>is.getD i 0),b∈is:=by intro b hb;obtain⟨i,hi,rfl⟩:=YZ.1 hb;have:=hN.sub i hi;rw[Ya,Yb Zo];exact Y1 _
 refine⟨fun _=>⟨hle,fun b hb hw=>hfr b hb hw,fun b hb=>isH b (wIn b hb),fun hk b x e=>?_⟩,fun _ g base D w vs hgl hI hvs hpw hD=>?_⟩
 ·rcases hH b x e with⟨h1,_⟩|⟨h1|h1,_⟩
  ·show b<H'.next;omega
  ·obtain⟨y,hy⟩:=isH b h1;have:=hk b y hy;show b<H'.next;omega
  exact h1.2
 have isD:∀b∈is,D b:=fun b hb=>hD b (YC _ hb);have isLt:∀b∈is,b<H.next:=fun b hb=>by obtain⟨y,hy⟩:=isH b hb;exact hI.keys b y hy
 let gc:G:=⟨fun i=>if i<F.length then g.mu (is.getD i 0)else none,g.phi⟩
 have hgetD:∀i,i<F.length→is.getD i 0∈is:=fun i hi=>by rw[Ya,Yb Zo];exact Y1 _
 have hmc:∀i,i<F.length→gc.mu i=g.mu (is.getD i 0):=fun i hi=>Yi hi;have hmc':∀i T,gc.mu i=some T→i<F.length∧g.mu (is.getD i 0)=some T:=fun i T e=>by
  simp only[gc]at e;split at e
  ·rename_i h;exact⟨h,e⟩
  cases e
 have hpc:∀c a,g.phi c=some a→gc.phi c=some a:=fun _ _ e=>e;have ndi:∀i j,i<F.length→j<F.length→is.getD i 0=is.getD j 0→i=j:=by intro i j hi hj e;rw[Ya,Ya,Yb Zo,Yb Zo]at e;exact(List.getElem_inj hnd).1 e
 have getF:∀i x,(⟨numB 0 F,F.length⟩:Hp).get i=some x→F[i]? =some x:=fun i x e=>by have:(numB 0 F).lookup i=some x:=e;rw[zc9]at this;simpa using this
 have hIc:Inv gc base ⟨numB 0 F,F.length⟩ (fun _=>True) w:=by
  refine⟨hI.frz,fun i T e=>?_,fun i x e=>?_,fun i x _ e=>?_,fun i j x y T T' _ _ e e' m m' ec=>?_,hI.base⟩
  ·obtain⟨h1,h2⟩:=hmc' i T e;exact⟨h1,(hI.dom _ T h2).2⟩
  ·exact(Ys.1 (getF i x e)).1
  ·have hx:=getF i x e;have hi:=(Ys.1 hx).1;obtain⟨b,y,hb,hy,hr⟩:=hF i x hx;have hbi:is.getD i 0=b:=by rw[Ya,hb];rfl
   obtain⟨T,o,e1,e2,e3,e4⟩:=hI.cont b y (isD b (YV hb)) hy;exact⟨T,o,by rw[hmc i hi,hbi];exact e1,e2,e3,e4.rn hpc (fun j hj=>hmc j hj) hr⟩
  have hi:=(Ys.1 (getF i x e)).1;have hj:=(Ys.1 (getF j y e')).1;have h1:=(hmc' i T m).2;have h2:=(hmc' j T' m').2;obtain⟨y1,hy1⟩:=isH _ (hgetD i hi);obtain⟨y2,hy2⟩:=isH _ (hgetD j hj);exact ndi i j hi hj (hI.inj _ _ y1 y2 T T' (isD _ (hgetD i hi)) (isD _ (hgetD j hj)) hy1 hy2 h1 h2 ec)
 have hpwc:PW gc args (fun i=>vs[i]?):=by intro i x hx;have hlt:=(Ys.1 hx).1;have hll:=ha.1;obtain⟨u,hu,ru⟩:=hpw i _ (Yb Zo);exact⟨u,hu,ru.rn hpc (fun j hj=>hmc j hj) (ha.2 i x _ hx (Yb Zo))⟩
 refine .inl ⟨hN.call vs w,(hN.run gc base w vs (hgl.mono (fun _ _ e=>e)) hIc (by rw[hvs];exact ha.1.symm) hpwc).mono fun e w' hq=>?_⟩;obtain⟨g1,vc,rfl,hv1,p⟩:=hq;let g':G:=⟨fun b=>if b<H.next then g.mu b else if b<H'.next then g1.mu (b-H.next+is.length)else none,g1.phi⟩
 have hidx:∀b,b∈is→is.idxOf b<F.length∧is.getD (is.idxOf b) 0=b:=by intro b hb;have h1:is.idxOf b<is.length:=List.idxOf_lt_length_of_mem hb;refine⟨Zo,?_⟩;rw[Ya,Yb h1];simp
 have hm':∀b,(b∈is∨(H.next≤b∧b<H'.next))→(b∈is→∃y,H.get b=some y)→g'.mu b=g1.mu (zu is H.next b):=by
  intro b hb _;rcases hb with hb|hb
  ·have hlt:=isLt b hb;obtain⟨h1,h2⟩:=hidx b hb;show (if b<H.next then g.mu b else _)=_;rw[Yi hlt,zu,Yi hlt];obtain⟨y,hy⟩:=isH b hb;obtain⟨T,o,e1,_⟩:=hI.cont b y (isD b hb) hy;have:gc.mu (is.idxOf b)=some T:=by rw[hmc _ h1,h2];exact e1
   rw[e1,p.le.1 _ _ this]
  show (if b<H.next then g.mu b else if b<H'.next then g1.mu (b-H.next+is.length)else none)=_;rw[Ye Zo,Yi hb.2,zu,Ye Zo]
 have hm:∀b,(b∈is∨(H.next≤b∧b<H'.next))→g'.mu b=g1.mu (zu is H.next b):=fun b hb=>hm' b hb (fun h=>isH b h);have hp1:∀c a,g1.phi c=some a→g'.phi c=some a:=fun _ _ e=>e;have elder:∀b,b<H.next→g'.mu b=g.mu b:=fun b hb=>Yi hb;have phiN:∀c,c<w.heap.size→g.phi c=none→g1.phi c=none:=fun c hc hn=>by
  cases e:g1.phi c with
  |none=>rfl
  |some a=>
   rcases p.newphi c a e with e'|h
   ·have e'':g.phi c=some a:=e';rw[hn]at e'';cases e''
   omega
 have hle':g.le g':=⟨fun b T e=>by rw[elder b (hI.dom b T e).1];exact e,fun c a e=>p.le.2 c a e⟩;have wT:∀i∈W,∀T,gc.mu i=some T→g.mu (is.getD i 0)=some T∧is.getD i 0∈is:=fun i hi T e=>⟨(hmc' i T e).2,hgetD i (hN.sub i hi)⟩;have stand:∀b x T,D b→b∉is→H.get b=some x→g.mu b=some T→w'.heap[T.c]? =w.heap[T.c]? :=by intro b x T hDb hb hx hT;refine p.frame T.c (hI.dom b T hT).2.2 fun i hi T' e ec=>?_;obtain⟨e',hin⟩:=wT i hi T' e;obtain⟨y,hy⟩:=isH _ hin;have:=hI.inj _ b y x T' T (isD _ hin) hDb hy hx e' hT ec;exact hb (this▸hin)
 have apart:∀b x T i T',D b→b∉is→H.get b=some x→g.mu b=some T→g1.mu i=some T'→T.c≠T'.c:=by
  intro b x T i T' hDb hb hx hT hi' ec;have hlt:=(hI.dom b T hT).2.2;rcases p.newmu i T' hi' with e0|⟨_,h1|⟨b0,hb0,T0,e0,ec0⟩⟩
  ·obtain⟨h1,h2⟩:=hmc' i T' e0;have hin:=hgetD i h1;obtain⟨y,hy⟩:=isH _ hin;exact hb ((hI.inj b _ x y T T' hDb (isD _ hin) hx hy hT h2 ec)▸hin)
  ·omega
  obtain⟨e',hin⟩:=wT b0 hb0 T0 e0;obtain⟨y,hy⟩:=isH _ hin;exact hb ((hI.inj b _ x y T T0 hDb (isD _ hin) hx hy hT e' (ec.trans ec0.symm))▸hin)
 refine⟨g',vc,rfl,hv1.rn hp1 hm hv,hle',?_,?_,p.newphi,?_,p.size,p.os,p.tape,p.output,hfr,hle⟩
 ·refine⟨p.inv.frz,fun b T e=>?_,fun b x e=>?_,fun b x hd e=>?_,fun b b' x x' T T' hd hd' e e' m m' ec=>?_,Yw hI.base p.size⟩
  ·simp only[g']at e;split at e
   ·have:=hI.dom b T e;exact⟨by show b<H'.next;omega,this.2.1,by have:=p.size;omega⟩
   split at e
   ·rename_i h;exact⟨h,(p.inv.dom _ T e).2⟩
   cases e
  ·rcases hH b x e with⟨h1,_⟩|⟨h1|h1,_⟩
   ·show b<H'.next;omega
   ·have:=isLt b h1;show b<H'.next;omega
   exact h1.2
  ·rcases hH b x e with⟨h1,h2,h3⟩|⟨h1,y,hy,hr⟩
   ·have hDb:D b:=hd.resolve_right Zo;obtain⟨T,o,e1,e2,e3,e4⟩:=hI.cont b x hDb h3;exact⟨T,o,by rw[elder b h1];exact e1,phiN _ (hI.dom b T e1).2.2 e2,by rw[stand b x T hDb h2 h3 e1];exact e3,e4.mono hle'⟩
   obtain⟨T,o,e1,e2,e3,e4⟩:=p.inv.cont _ y (.inl trivial) hy;exact⟨T,o,by rw[hm b h1];exact e1,e2,e3,e4.rn hp1 hm hr⟩
  rcases hH b x e with⟨h1,h2,h3⟩|⟨h1,y,hy,hr⟩<;>rcases hH b' x' e' with⟨k1,k2,k3⟩|⟨k1,z,hz,kr⟩
  ·rw[elder b h1]at m;rw[elder b' k1]at m';exact hI.inj b b' x x' T T' (hd.resolve_right Zo) (hd'.resolve_right Zo) h3 k3 m m' ec
  ·rw[elder b h1]at m;rw[hm b' k1]at m';exact absurd ec (apart b x T _ T' (hd.resolve_right Zo) h2 h3 m m')
  ·rw[hm b h1]at m;rw[elder b' k1]at m';exact absurd ec.symm (apart b' x' T' _ T (hd'.resolve_right Zo) k2 k3 m' m)
  rw[hm b h1]at m;rw[hm b' k1]at m';have hi:=p.inv.inj _ _ y z T T' (.inl trivial) (.inl trivial) hy hz m m' ec;unfold zu at hi;split at hi<;>split at hi
  ·rename_i q1 q2;have hb:=h1.resolve_right Zo;have hb':=k1.resolve_right Zo;rw[←(hidx b hb).2,←(hidx b' hb').2,hi]
  ·rename_i q1 q2;have:=(hidx b (h1.resolve_right Zo)).1;omega
  ·rename_i q1 q2;have:=(hidx b' (k1.resolve_right Zo)).1;omega
  omega
 ·intro b T e;rcases YaJ b H.next with hlt|hge
  ·rw[elder b hlt]at e;exact .inl e
  refine .inr ⟨hge,?_⟩;simp only[g']at e;rw[Ye Zo]at e;split at e
  ·rcases p.newmu _ T e with e0|⟨_,h1|⟨b0,hb0,T0,e0,ec0⟩⟩
   ·have:=(hmc' _ T e0).1;omega
   ·exact .inl h1
   exact .inr ⟨is.getD b0 0,YZ.2 ⟨b0,hb0,rfl⟩,T0,(wT b0 hb0 T0 e0).1,ec0⟩
  cases e
 intro c hc hw;refine p.frame c hc fun i hi T e=>hw _ (YZ.2 ⟨i,hi,rfl⟩) T (wT i hi T e).1
end Go.Ab

namespace Go.Ab
inductive FrzF(H:Hp)(F:Nat→Prop):V→V→Prop
 |pure {v} (h:Pure v):FrzF H F v v
 |nil0:FrzF H F .nilS (.fs [] 0)
 |sl {b off len sz kc cs cs'} (hF:F b) (hg:H.get b=some (.cells cs)) (hl:off+len*sz≤cs.length) (hll:cs'.length=len*sz)
  (h:∀(i:Nat)(x y:V),((cs.drop off).take (len*sz))[i]? =some x→cs'[i]? =some y→FrzF H F x y):FrzF H F (.sl b off len sz kc) (.fs cs' len)
 |ptr {b off cs cs'} (hF:F b) (hg:H.get b=some (.cells cs)) (hl:cs'.length=(cs.drop off).length)
  (h:∀(i:Nat)(x y:V),(cs.drop off)[i]? =some x→cs'[i]? =some y→FrzF H F x y):FrzF H F (.ptr b off) (.fp cs')
 |fn {f cs cs'} (hl:cs'.length=cs.length) (h:∀(i:Nat)(x y:V),cs[i]? =some x→cs'[i]? =some y→FrzF H F x y):FrzF H F (.fn f cs) (.fn f cs')
 |agg {cs cs'} (hl:cs'.length=cs.length) (h:∀(i:Nat)(x y:V),cs[i]? =some x→cs'[i]? =some y→FrzF H F x y):FrzF H F (.agg cs) (.agg cs')
def FrzF.rel {g g':G}{base:Nat}{H:Hp}{D:Nat→Prop}{F:Nat→Prop}{w:World}(hi:Inv g base H D w)(hD:∀b,F b→D b)(hp:∀c a,g.phi c=some a→g'.phi c=some a) (ha:∀b T arr t,F b→g.mu b=some T→w.heap[T.c]? =some (.cells arr t (0,0))→g'.phi T.c=some arr) {v v':V} (h:FrzF H F v v'):∀ {vc:Value},VRel g v vc→VRel g' v' vc:=by
 have list:∀ {l l':ZA} {get:Nat→Option Value},l'.length=l.length→(∀(i:Nat)(x y:V),l[i]? =some x→l'[i]? =some y→∀ {vc:Value},VRel g x vc→VRel g' y vc)→PW g l get→PW g' l' get:=by intro l l' get hl ih p i y hy;have hlt:=(Ys.1 hy).1;obtain⟨u,hu,ru⟩:=p i _ (Yb Zo);exact⟨u,hu,ih i _ y (Yb Zo) hy ru⟩
 induction h with
 |pure h=>intro vc r;exact r.pure hp h
 |nil0=>intro vc r;cases r;exact .fs0 fun _=>rfl
 |@sl b off len sz kc cs cs' hF hg hl hll _ ih=>
  intro vc r;obtain⟨T,o,cap,hm,hlc,ho,hk,rfl⟩:=r.inv_sl;obtain⟨T1,ob,m1,p1,h1,r1⟩:=hi.cont b _ (hD b hF) hg;obtain rfl:=ZT hm m1;cases r1 with
  |cells hs hbd hpw=>
   rename_i arr t;have hphi:=ha _ _ _ _ hF hm h1;by_cases h0:len*sz=0
   ·have:cs'=[]:=Yz Zo;subst this;by_cases hl0:len=0
    ·subst hl0;exact .fs0 Zs
    exact Xk hphi hlc PW.nil
   have hc:cap≠0:=by rintro rfl;have:len=0:=Zo;subst this;simp at h0
   obtain⟨rfl,_⟩:=ho hc;refine Xk hphi hlc (list (by simp;omega) ih (((hpw.drop off).take (len*sz)).congr fun i _=>?_));show _=arr[T1.sh+(off+i)]?;rw[YO]
 |@ptr b off cs cs' hF hg hl _ ih=>
  intro vc r;obtain⟨T,hm,rfl⟩:=r.inv_ptr;obtain⟨T1,ob,m1,p1,h1,r1⟩:=hi.cont b _ (hD b hF) hg;obtain rfl:=ZT hm m1;cases r1 with
  |cells hs hbd hpw=>rename_i arr t;have hphi:=ha _ _ _ _ hF hm h1;refine VRel.mk_fp hphi (list hl ih ((hpw.drop off).congr fun i _=>?_));show _=arr[T1.sh+(off+i)]?;rw[YO]
 |fn hl _ ih=>intro vc r;obtain⟨arr,rfl,hs,p⟩:=r.inv_fn;exact Xn Zo (list hl ih p)
 |agg hl _ ih=>intro vc r;obtain⟨arr,rfl,hs,p⟩:=r.inv_agg;exact Xj Zo (list hl ih p)
structure Fz(nx:Nat)(F:Nat→Prop)(s s':St):Prop where
 env:∀t v',s'.env.lookup t=some v'→v'=.any∨∃v,s.env.lookup t=some v∧(Rn id (fun b=>¬F b∧b<s'.h.next) v' v∨FrzF s.h F v v')
 heap:∀b x',s'.h.get b=some x'→b<s'.h.next∧¬F b∧∃x,s.h.get b=some x∧RnB id (fun b=>¬F b∧b<s'.h.next) x' x
 live:∀b,F b→nx≤b∧∃x,s.h.get b=some x
 elder:∀b,b<nx→s'.h.get b=s.h.get b
 next:nx≤s'.h.next
def FzB(H:Hp)(F:Nat→Prop)(n:Nat)(x' x:Blk):Prop:=
 RnB id (fun b=>¬F b∧b<n) x' x∨∃cs cs',x=.cells cs∧x'=.cells cs'∧cs'.length=cs.length∧∀(i:Nat)(u v:V),cs[i]? =some u→cs'[i]? =some v→Rn id (fun b=>¬F b∧b<n) v u∨FrzF H F u v
structure Fz2(nx:Nat)(F:Nat→Prop)(s s':St):Prop where
 env:∀t v',s'.env.lookup t=some v'→v'=.any∨∃v,s.env.lookup t=some v∧(Rn id (fun b=>¬F b∧b<s'.h.next) v' v∨FrzF s.h F v v')
 heap:∀b x',s'.h.get b=some x'→b<s'.h.next∧¬F b∧∃x,s.h.get b=some x∧FzB s.h F s'.h.next x' x
 live:∀b,F b→nx≤b∧∃x,s.h.get b=some x
 elder:∀b,b<nx→s'.h.get b=s.h.get b
 next:nx≤s'.h.next
open Classical in
def Rel.freeze3 {C:Cfg}{base:Nat}{D:Nat→Prop}{g0:G}{H0:Hp}{w0:World}{g:G}{F:Nat→Prop}{s s':St}{a:Act}{w:World}(he:Entry C base D g0 H0 w0)(r:Rel C base D g0 H0 w0 g s a w)(hW:∀b0∈C.Wm,b0<C.nx∧∃x,s.h.get b0=some x)(h:Fz2 C.nx F s s'):∃g',Rel C base D g0 H0 w0 g' s' a w:=by
 let cellsAt:Nat→Option (Array Value):=fun c=>match w.heap[c]? with|some (.cells arr _ _)=>some arr|_=>none
 let g':G:=⟨fun b=>if ¬F b∧b<s'.h.next then g.mu b else none,fun c=>(g.phi c).or (if ∃b T,F b∧g.mu b=some T∧T.c=c then cellsAt c else none)⟩
 have hp:∀c a,g.phi c=some a→g'.phi c=some a:=fun c a e=>by show (g.phi c).or _=_;rw[e];rfl
 have hm:∀b,(¬F b∧b<s'.h.next)→g'.mu b=g.mu (id b):=fun b hb=>Yi hb;have hm':∀b T,g'.mu b=some T→(¬F b∧b<s'.h.next)∧g.mu b=some T:=by
  intro b T e;simp only[g']at e;split at e
  ·rename_i hb;exact⟨hb,e⟩
  cases e
 have pnx:=he.nx;have ha:∀b T arr t,F b→g.mu b=some T→w.heap[T.c]? =some (.cells arr t (0,0))→g'.phi T.c=some arr:=by intro b T arr t hF hmu hh;show (g.phi T.c).or _=_;obtain⟨x,hx⟩:=(h.live b hF).2;obtain⟨T1,o,e1,e2,_⟩:=r.post.inv.cont b x (he.inD b) hx;obtain rfl:=ZT hmu e1;rw[e2,Yi ⟨b,T1,hF,hmu,rfl⟩];show cellsAt T1.c=some arr;simp only[cellsAt,hh]
 have hphi:∀c a,g'.phi c=some a→g.phi c=some a∨((∃b T,F b∧g.mu b=some T∧T.c=c)∧cellsAt c=some a):=by
  intro c a e;have e':(g.phi c).or (if ∃b T,F b∧g.mu b=some T∧T.c=c then cellsAt c else none)=some a:=e;cases e1:g.phi c with
  |some a'=>rw[e1]at e';left;exact e'
  |none=>
   rw[e1]at e';simp only[Option.none_or]at e';split at e'
   ·rename_i hc;exact .inr ⟨hc,e'⟩
   cases e'
 refine⟨g',⟨⟨r.env.glob.mono hp,r.env.size,fun t v' e=>?_⟩,r.defers,?_⟩⟩
 ·rcases h.env t v' e with rfl|⟨v,ev,rn|fz⟩
  ·exact .any _
  ·exact(r.env.rel t v ev).rn hp hm rn
  exact fz.rel r.post.inv (fun b _=>he.inD b) hp ha (r.env.rel t v ev)
 have own:∀b T,(∃x,s.h.get b=some x)→g.mu b=some T→C.nx≤b→w0.heap.size≤T.c:=by
  intro b T ⟨x,hx⟩ e hb;rcases r.post.newmu b T e with e0|⟨_,hc|⟨b0,h0,T0,e0,ec⟩⟩
  ·have:=(he.inv.dom b T e0).1;omega
  ·exact hc
  obtain⟨h1,y,hy⟩:=hW b0 h0;have:=r.post.inv.inj b b0 x y T T0 (he.inD _) (he.inD _) hx hy e (r.post.le.1 _ _ e0) ec.symm;omega
 refine⟨?_,?_,?_,?_,r.post.frame,r.post.size,r.post.os,r.post.tape,r.post.output,?_,?_⟩
 ·refine⟨fun b T e=>?_,fun c a e=>hp c a (r.post.le.2 c a e)⟩;have hb:=(he.inv.dom b T e).1;have hnF:¬F b:=fun hF=>by have:=(h.live b hF).1;omega
  have:g'.mu b=g.mu b:=hm b ⟨hnF,by have:=h.next;omega⟩;rw[this];exact r.post.le.1 b T e
 ·refine⟨fun c a e=>?_,fun b T e=>?_,fun b x e=>(h.heap b x e).1,fun b x _ e=>?_,fun b b' x x' T T' _ _ e e' m m' ec=>?_,r.post.inv.base⟩
  ·rcases hphi c a e with e|⟨_,e⟩
   ·exact r.post.inv.frz c a e
   simp only[cellsAt]at e;split at e
   ·rename_i arr t fr hh;cases e;exact⟨t,fr,hh⟩
   cases e
  ·obtain⟨h1,h2⟩:=hm' b T e;exact⟨h1.2,(r.post.inv.dom _ T h2).2⟩
  ·obtain⟨hb,hnF,y,hy,rn⟩:=h.heap b x e;obtain⟨T,o,e1,e2,e3,e4⟩:=r.post.inv.cont _ y (he.inD _) hy;refine⟨T,o,(hm b ⟨hnF,hb⟩).trans e1,?_,e3,?_⟩;rotate_left
   ·rcases rn with rn|⟨cs,cs',rfl,rfl,hl,hc⟩
    ·exact e4.rn hp hm rn
    cases e4 with
    |cells hs hbd hpw=>
     refine .cells hs Zo fun i v hv=>?_;have hlt:=(Ys.1 hv).1;obtain⟨u,hu,ru⟩:=hpw i _ (Yb Zo);refine⟨u,hu,?_⟩;rcases hc i _ v (Yb Zo) hv with k|k
     ·exact ru.rn hp hm k
     exact k.rel r.post.inv (fun b _=>he.inD b) hp ha ru
   cases e5:g'.phi T.c with
   |none=>rfl
   |some ar=>
    rcases hphi _ _ e5 with e6|⟨⟨b1,T1,hF1,hm1,hc1⟩,_⟩
    ·rw[e2]at e6;cases e6
    obtain⟨x1,hx1⟩:=(h.live b1 hF1).2;have:=r.post.inv.inj b1 b x1 y T1 T (he.inD _) (he.inD _) hx1 hy hm1 e1 hc1;subst this;exact absurd hF1 hnF
  obtain⟨hb,hnF,y,hy,_⟩:=h.heap b x e;obtain⟨hb',hnF',y',hy',_⟩:=h.heap b' x' e';exact r.post.inv.inj _ _ y y' T T' (he.inD _) (he.inD _) hy hy' (hm' b T m).2 (hm' b' T' m').2 ec
 ·intro b T e;exact r.post.newmu b T (hm' b T e).2
 ·intro c a e;rcases hphi c a e with e|⟨⟨b,T,hF,hmu,rfl⟩,_⟩
  ·exact r.post.newphi c a e
  exact .inr (own b T (h.live b hF).2 hmu (h.live b hF).1)
 ·intro b hb hn;rw[h.elder b Zo];exact r.post.aframe b hb hn
 have:=h.next;omega
def AX.freeze3 {C:Cfg}{P:Program}{K:Out→St→Prop}{F:Nat→Prop}{c:Code}{s s':St}(hW:∀b0∈C.Wm,b0<C.nx∧∃x,s.h.get b0=some x)(hs:Fz2 C.nx F s s')(h:AX C P c s' K):AX C P c s K:=fun base D g0 H0 w0 _ a w he r=>
 let ⟨g',r'⟩:=r.freeze3 he hW hs
 h base D g0 H0 w0 g' a w he r'
def Fz.two {nx:Nat}{F:Nat→Prop}{s s':St}(h:Fz nx F s s'):Fz2 nx F s s':=
 ⟨h.env,fun b x' e=>let ⟨h1,h2,x,h3,h4⟩:=h.heap b x' e;⟨h1,h2,x,h3,.inl h4⟩,h.live,h.elder,h.next⟩
def XC {C:Cfg}{P:Program}{K:Out→St→Prop}{F:Nat→Prop}{c:Code}{s s':St}(hW:C.Wm=[])(hs:Fz2 C.nx F s s')(h:AX C P c s' K):AX C P c s K:=
 AX.freeze3 (fun b hb=>by rw[hW]at hb;cases hb) hs h
def AX.freeze {C:Cfg}{P:Program}{K:Out→St→Prop}{F:Nat→Prop}{c:Code}{s s':St}(hW:C.Wm=[])(hs:Fz C.nx F s s')(h:AX C P c s' K):AX C P c s K:=
 XC hW hs.two h
end Go.Ab
