/- Code over abstract states: triples, what computes them, and the contract of a function from its body's. -/
import Derived.Test.YtbdlfegfepggnaaGreatDoorAbDraw3
import Derived.LoopN
set_option linter.all false
set_option maxHeartbeats 16000000
set_option maxRecDepth 100000
noncomputable section
namespace Go.Ab
def least(p:Nat→Prop)(h:∃n,p n):∃n,p n∧∀m,p m→n≤m:=by
 obtain⟨n,hn⟩:=h;induction n using Nat.strongRecOn with
 |_ n ih=>
  by_cases hc:∃m,m<n∧p m
  ·obtain⟨m,h1,h2⟩:=hc;exact ih m h1 h2
  exact⟨n,hn,fun m hm=>Y3 fun hlt=>hc ⟨m,hlt,hm⟩⟩
def AX(C:Cfg)(P:Program)(c:Code)(s:St)(K:Out→St→Prop):Prop:=
 ∀(base:Nat)(D:Nat→Prop)(g0:G)(H0:Hp)(w0:World)(g:G)(a:Act)(w:World),Entry C base D g0 H0 w0→Rel C base D g0 H0 w0 g s a w→c.wp P (Aft C base D g0 H0 w0 K) a w
def Out.norm? :Out→Bool
 | .norm=>true
 |_=>false
def zkP(next:St→Prop)(K:Out→St→Prop):Out→St→Prop
 | .norm,s=>next s
 |o,s=>K o s
def zqC(id:Nat)(K:Out→St→Prop):Out→St→Prop
 | .exit i,s=>if i=id then K .norm s else K (.exit i) s
 |o,s=>K o s
def zb1(keep:Nat→Bool)(K:Out→St→Prop):Out→St→Prop
 | .norm,s=>K .norm (s.trim keep)
 |o,s=>K o s
variable {C:Cfg}{P:Program}{K K':Out→St→Prop}{s:St}
def AX.mono {c:Code}(h:AX C P c s K)(hk:∀o s,K o s→K' o s):AX C P c s K':=fun base D g0 H0 w0 g a w he r=>
 wp_mono (h base D g0 H0 w0 g a w he r) fun _ _ _ ⟨o,s,g,h1,h2⟩=>⟨o,s,g,hk o s h1,h2⟩
def AX.sub {c:Code}{s':St}(hs:Sub C s s')(h:AX C P c s' K):AX C P c s K:=fun base D g0 H0 w0 _ a w he r=>
 let ⟨g',r'⟩:=r.sub he hs
 h base D g0 H0 w0 g' a w he r'
def AX.skip(h:K .norm s):AX C P .skip s K:=fun _ _ _ _ _ g _ _ _ r=>wp_skip ⟨.norm,s,g,h,trivial,r⟩
def AX.ret(h:K .ret s):AX C P .ret s K:=fun _ _ _ _ _ g _ _ _ r=>wp_ret ⟨.ret,s,g,h,trivial,r⟩
def AX.exit {id:Nat}(h:K (.exit id) s):AX C P (.exit id) s K:=fun _ _ _ _ _ g _ _ _ r=>wp_exit ⟨.exit id,s,g,h,rfl,r⟩
def AX.seq {x y:Code}(h:AX C P x s (zkP (fun s=>AX C P y s K) K)):AX C P (.seq x y) s K:=fun base D g0 H0 w0 g a w he r=>
 wp_seq (wp_mono (h base D g0 H0 w0 g a w he r) fun e a w ⟨o,s,g,h1,h2,h3⟩=>by
  cases o<;>cases e<;>first|exact h2.elim|skip
  ·exact h1 base D g0 H0 w0 g a w he h3
  ·exact⟨_,s,g,h1,h2,h3⟩
  ·exact⟨_,s,g,h1,h2,h3⟩
  exact⟨_,s,g,h1,h2,h3⟩)
def AX.block {id:Nat}{x:Code}(h:AX C P x s (zqC id K)):AX C P (.block id x) s K:=fun base D g0 H0 w0 g a w he r=>
 wp_block (wp_mono (h base D g0 H0 w0 g a w he r) fun e a w ⟨o,s,g,h1,h2,h3⟩=>by
  cases o<;>cases e<;>first|exact h2.elim|skip
  ·exact⟨_,s,g,h1,h2,h3⟩
  ·rename_i i j _;obtain rfl:i=j:=h2;show (if i=id then _ else _);simp only[zqC]at h1;split
   ·rename_i hi;rw[Yi hi]at h1;exact⟨.norm,s,g,h1,trivial,h3⟩
   rename_i hi;rw[Ye hi]at h1;exact⟨.exit i,s,g,h1,rfl,h3⟩
  ·exact⟨_,s,g,h1,h2,h3⟩
  exact⟨_,s,g,h1,h2,h3⟩)
def AX.cond {c:Operand}{x y:Code}{b:Bool}(hb:ev s.env c=.bool b)(h:if b=true then AX C P x s K else AX C P y s K):AX C P (.cond c x y) s K:=fun base D g0 H0 w0 g a w he r=>by
 have hr:=r.env.ev c;rw[hb]at hr;have hc:=hr.inv_bool;cases b with
 |true=>exact wp_cond hc (h base D g0 H0 w0 g a w he r)
 |false=>exact wp_cond hc (h base D g0 H0 w0 g a w he r)
def AX.loop {x:Code}{ι:Type}(inv:ι→St)(p:ι→Prop)(m:ι→Nat)(i0:ι)(h0:p i0)(hs:Sub C s (inv i0)) (h:∀i,p i→AX C P x (inv i) (zkP (fun s'=>∃j,p j∧m j<m i∧Sub C s' (inv j)) K)):AX C P (.loop x) s K:=fun base D g0 H0 w0 g a w he r=>by
 obtain⟨g1,r1⟩:=r.sub he hs;let I:Nat→Act→World→Prop:=fun n a w=>∃i g,p i∧m i=n∧Rel C base D g0 H0 w0 g (inv i) a w
 have key:∀n a w,I n a w→(Code.loop x).wp P (Aft C base D g0 H0 w0 K) a w:=by
  intro n a w hI;classical
  refine wp_loop (fun a w=>∃n,I n a w) (fun a w=>if h:∃n,I n a w then Classical.choose (least (fun n=>I n a w) h)else 0) ⟨n,hI⟩ ?_;intro a w hE;have hf:=(YaG (least (fun n=>I n a w) hE)).1;obtain⟨i,g,hp,hmi,hr⟩:=hf;refine wp_mono (h i hp base D g0 H0 w0 g a w he hr) fun e a' w' ⟨o,s,g,h1,h2,h3⟩=>?_;cases o<;>cases e<;>first|exact h2.elim|skip
  ·obtain⟨j,hpj,hlt,hsub⟩:=h1;obtain⟨g',r'⟩:=h3.sub he hsub;have hj:I (m j) a' w':=⟨j,g',hpj,rfl,r'⟩;refine⟨⟨_,hj⟩,?_⟩;rw[dif_pos ⟨_,hj⟩,dif_pos hE];have:=(YaG (least (fun n=>I n a' w') ⟨_,hj⟩)).2 _ hj;omega
  ·exact⟨_,s,g,h1,h2,h3⟩
  ·exact⟨_,s,g,h1,h2,h3⟩
  exact⟨_,s,g,h1,h2,h3⟩
 exact key _ a w ⟨i0,g1,h0,rfl,r1⟩
def znD(nt:Nat)(os:List Oper):Bool:=os.all fun o=>match o.dst with|some d=>decide (d<nt)|none=>true
def za0(nt:Nat):Code→Bool
 | .region _ ops d=>znD nt ops.toList&&(!d||zco ops)
 | .seq a b=>za0 nt a&&za0 nt b
 | .cond _ a b=>za0 nt a&&za0 nt b
 | .block _ a=>za0 nt a
 | .loop a=>za0 nt a
 |_=>true
def zcf {nt:Nat}{os:List Oper}(h:znD nt os=true):∀o∈os,∀d,o.dst=some d→d<nt:=fun o ho d e=>by have:=Yl.1 h o ho;rw[e]at this;simpa using this
def AX.region {id:Nat}{ops:Array Oper}(hΓ:zfg P C)(hok:znD C.nt ops.toList=true)(h:ARun C P ops ops.toList s (zb1 C.keep K)):AX C P (.region id ops false) s K:=fun base D g0 H0 w0 g a w he r=>by
 refine wp_region ?_;have hq:∀e a w,Aft C base D g0 H0 w0 (zb1 C.keep K) e a w→Aft C base D g0 H0 w0 K e a w:=fun e a w ⟨o,s,g,h1,h2,h3⟩=>by
  cases o with
  |norm=>exact⟨.norm,s.trim C.keep,g,h1,h2,h3.env.trim C.keep,h3.defers,h3.post⟩
  |exit i=>exact⟨_,s,g,h1,h2,h3⟩
  |ret=>exact⟨_,s,g,h1,h2,h3⟩
  |panic v=>exact⟨_,s,g,h1,h2,h3⟩
 have:=zeC he hΓ (zcf hok) (Aft C base D g0 H0 w0 K) hq ops.toList 0 rfl s g a w r h;rw[Yb7];simpa using this
def Xw {id:Nat}{ops:Array Oper}(hm:P.follows .mixedOrders=true)(hok:znD C.nt ops.toList=true)(hdr:zco ops=true) (h:(∀b x,s.h.get b=some x→b<s.h.next)→∃m S v f,DEnd C P ops s (zb1 C.keep K) m S v f):AX C P (.region id ops true) s K:=fun base D g0 H0 w0 g a w he r=>by
 obtain⟨m,S,v,f,T⟩:=h r.post.inv.keys;refine wp_region_any hm ?_;have hp:Post g g base s.h s.h (fun b=>D b∨H0.next≤b) [] w { w with drawn:=w.drawn+1 }:=Post.refl r.post.inv rfl rfl ⟨rfl,zsF (Ya7 _)⟩ rfl;have r':Rel C base D g0 H0 w0 g s a { w with drawn:=w.drawn+1 }:=⟨r.env,r.defers,r.step he hp rfl⟩;refine draw_ok he T hdr (zcf hok) r' _ fun e a w ⟨o,s,g,h1,h2,h3⟩=>?_;cases o with
 |norm=>exact⟨.norm,s.trim C.keep,g,h1,h2,h3.env.trim C.keep,h3.defers,h3.post⟩
 |exit i=>exact⟨_,s,g,h1,h2,h3⟩
 |ret=>exact⟨_,s,g,h1,h2,h3⟩
 |panic v=>exact⟨_,s,g,h1,h2,h3⟩
def AX.draw {id:Nat}{ops:Array Oper}(hm:P.follows .mixedOrders=true)(hΓ:zfg P C)(hok:znD C.nt ops.toList=true)(hdr:zco ops=true)(h:DRun C P ops ops.toList 0 s [] (zb1 C.keep K)):AX C P (.region id ops true) s K:=Xw hm hok hdr fun hk=>by obtain⟨m,S,v,f,acc',T⟩:=zmW hΓ ops.toList 0 (Yk _) rfl s [] h;exact⟨m,S,v,f,T.toEnd hdr hk (zcf hok)⟩
def AX.next {C:Cfg}{s:St}{K:Out→St→Prop}{id:Nat}{ops:Array Oper}{o:Oper}{os:List Oper}{it:Operand}{l:List XR}(hΓ:zfg P C)(hok:znD C.nt ops.toList=true)(ho:ops.toList=o::os) (hop:o.op=.next it false) (hg:o.guard=none) (hc:(ev s.env it).cond) (hn:zqJ (rho s.env it) s.h=some l) (h:∀q∈l,wok C q.W=true∧ARun C P ops os ((s.put o.dst q.v).hp q.h) (zb1 C.keep K)):AX C P (.region id ops false) s K:=fun base D g0 H0 w0 g a w he r=>by
 refine wp_region ?_;have hq:∀e a w,Aft C base D g0 H0 w0 (zb1 C.keep K) e a w→Aft C base D g0 H0 w0 K e a w:=fun e a w ⟨o,s,g,h1,h2,h3⟩=>by
  cases o with
  |norm=>exact⟨.norm,s.trim C.keep,g,h1,h2,h3.env.trim C.keep,h3.defers,h3.post⟩
  |exit i=>exact⟨_,s,g,h1,h2,h3⟩
  |ret=>exact⟨_,s,g,h1,h2,h3⟩
  |panic v=>exact⟨_,s,g,h1,h2,h3⟩
 have hlen:ops.size=os.length+1:=by rw[←YX,ho];rfl
 have ho0:ops[0]? =some o:=by rw[←YF,ho];rfl
 have hdo:∀d,o.dst=some d→d<C.nt:=zcf hok o (by rw[ho];exact YK ..);rw[Yb7,hlen,List.range'_succ];simp only[wpOps,ho0];have hw:Region.wanted o (yielded ops a.tmps)=true:=by unfold Region.wanted;rw[hg]
 rw[Yi hw];refine .inl ?_;have hx:VRel g (rho s.env it) (a.eval it):=(r.env.ev it).val hc;obtain⟨q,hql,g',w',vc,hrun,hv,hp⟩:=xNext_ok (P:=P) (ty:=o.type) r.post.inv hx hn (fun q _ b _=>he.inD b);obtain⟨hwk,har⟩:=h q hql;have hrun':(execOp a.eval o).run P w=.ok (.value vc) w':=by unfold execOp;rw[hop];simp[hrun]
 unfold Oper.wp;rw[hrun'];refine zeC he hΓ (zcf hok) (Aft C base D g0 H0 w0 K) hq os 1 (by rw[ho];rfl) ((s.put o.dst q.v).hp q.h) g' _ w' ⟨(r.env.mono hp.le).put hdo hv,?_,r.step he hp hwk⟩ har;cases o.dst<;>exact r.defers
def AX.late {id:Nat}{ops:Array Oper}{i0:Nat}{op0:Op}{j0:Nat}(hm:P.follows .mixedOrders=true)(hΓ:zfg P C)(hok:znD C.nt ops.toList=true)(hdr:zco ops=true)(hl:zeY ops.toList=some (i0,op0,j0)) (h:zyR C P ops i0 op0 j0 ops.toList 0 s [] none (zb1 C.keep K)):AX C P (.region id ops true) s K:=Xw hm hok hdr fun hk=>by
 obtain⟨S,v,f,acc',T⟩:=zi2 hΓ ops.toList 0 rfl (Yk _) s [] none h;unfold zeY at hl;split at hl
 ·cases hl
 obtain⟨_,h2,_,o,h4,h5⟩:=ziI hl;exact⟨ops.size,S,v,f,T.toEnd hΓ hdr hk (zcf hok) h2 (by rw[←YF];exact h4) h5⟩
def zeW:List Oper→Option (Option Tmp×Operand×List Oper)
 |[]=>none
 |o::os=>match o.op,o.guard with
  | .next it false,none=>some (o.dst,it,os)
  |_,_=>none
def ANext(C:Cfg)(P:Program)(ops:Array Oper)(os:List Oper)(d:Option Tmp)(c:Prop)(l:Option (List XR))(s:St)(K:Out→St→Prop):Prop:=
 c∧match l with
  |some l=>∀q∈l,wok C q.W=true∧ARun C P ops os ((s.put d q.v).hp q.h) K
  |none=>False
def ARunN(C:Cfg)(P:Program)(ops:Array Oper)(n:Option (Option Tmp×Operand×List Oper))(s:St)(K:Out→St→Prop):Prop:=
 match n with
 |some (d,it,os)=>ANext C P ops os d (ev s.env it).cond (zqJ (rho s.env it) s.h) s K
 |none=>ARun C P ops ops.toList s K
def DRunN(C:Cfg)(P:Program)(ops:Array Oper)(n:Option (Nat×Op×Nat))(s:St)(K:Out→St→Prop):Prop:=
 match n with
 |some (i0,op0,j0)=>zyR C P ops i0 op0 j0 ops.toList 0 s [] none K
 |none=>DRun C P ops ops.toList 0 s [] K
def zbf:Code→Bool
 | .loop _=>true
 | .block _ x=>zbf x
 | .seq _ y=>zbf y
 | .cond _ x y=>zbf x||zbf y
 |_=>false
def AXf(C:Cfg)(P:Program):Code→St→(Out→St→Prop)→Prop
 | .skip,s,K=>K .norm s
 | .ret,s,K=>K .ret s
 | .exit id,s,K=>K (.exit id) s
 | .seq x y,s,K=>AXf C P x s (zkP (fun s=>if zbf x=true then AX C P y s K else AXf C P y s K) K)
 | .block id x,s,K=>AXf C P x s (zqC id K)
 | .cond c x y,s,K=>
  match ev s.env c with
  | .bool b=>if b=true then AXf C P x s K else AXf C P y s K
  |_=>False
 | .region _ ops false,s,K=>ARunN C P ops (zeW ops.toList) s (zb1 C.keep K)
 | .region _ ops true,s,K=>DRunN C P ops (zeY ops.toList) s (zb1 C.keep K)
 | .loop x,s,K=>AX C P (.loop x) s K
 |_,_,_=>False
def zdq(hm:P.follows .mixedOrders=true)(hΓ:zfg P C):∀(c:Code)(s:St)(K:Out→St→Prop),za0 C.nt c=true→AXf C P c s K→AX C P c s K
 | .skip,_,_,_,h=>AX.skip h
 | .ret,_,_,_,h=>AX.ret h
 | .exit _,_,_,_,h=>AX.exit h
 | .seq x y,s,K,hc,h=>by
  simp only[za0,Yj]at hc;refine AX.seq ((zdq hm hΓ x s _ hc.1 h).mono fun o s' hk=>?_);cases o with
  |norm=>
   have hk':if zbf x=true then AX C P y s' K else AXf C P y s' K:=hk
   split at hk'
   ·exact hk'
   exact zdq hm hΓ y s' K hc.2 hk'
  |exit i=>exact hk
  |ret=>exact hk
  |panic v=>exact hk
 | .block id x,s,K,hc,h=>AX.block (zdq hm hΓ x s _ hc h)
 | .cond c x y,s,K,hc,h=>by
  simp only[za0,Yj]at hc;unfold AXf at h;split at h
  ·rename_i b hb;refine AX.cond hb ?_;split
   ·rename_i ht;rw[Yi ht]at h;exact zdq hm hΓ x s K hc.1 h
   rename_i ht;rw[Ye ht]at h;exact zdq hm hΓ y s K hc.2 h
  exact h.elim
 | .region _ ops false,s,K,hc,h=>by
  simp only[za0,Yj]at hc;unfold AXf ARunN at h;split at h
  ·rename_i d it os hn;unfold zeW at hn;split at hn
   ·cases hn
   rename_i o os' ho;split at hn
   ·rename_i it' hop hg;cases hn;obtain⟨h1,h2⟩:=h;split at h2
    ·rename_i l hl;exact AX.next hΓ hc.1 ho hop hg h1 hl h2
    exact h2.elim
   cases hn
  exact AX.region hΓ hc.1 h
 | .region _ ops true,s,K,hc,h=>by
  simp only[za0,Yj,YbN,YaT]at hc;unfold AXf DRunN at h;split at h
  ·rename_i hl;exact AX.late hm hΓ hc.1 hc.2 hl h
  exact AX.draw hm hΓ hc.1 hc.2 h
 | .loop _,_,_,_,h=>h
 | .rangeFunc ..,_,_,_,h=>h.elim
 | .scope _,_,_,_,h=>h.elim
 | .label _,_,_,_,h=>h.elim
 | .goto _,_,_,_,h=>h.elim
 | .refuse _,_,_,_,h=>h.elim
end Go.Ab

namespace Go.Ab
inductive Frz(H:Hp):V→V→Prop
 |pure {v} (h:Pure v):Frz H v v
 |any {v}:Frz H v .any
 |nil0:Frz H .nilS (.fs [] 0)
 |sl {b off len sz kc cs cs'} (hg:H.get b=some (.cells cs)) (hl:off+len*sz≤cs.length) (hll:cs'.length=len*sz)
  (h:∀(i:Nat)(x y:V),((cs.drop off).take (len*sz))[i]? =some x→cs'[i]? =some y→Frz H x y):Frz H (.sl b off len sz kc) (.fs cs' len)
 |slT {b off len sz kc t cs cs'} (hg:H.get b=some (.ty t cs)) (hl:off+len*sz≤cs.length) (hll:cs'.length=len*sz)
  (h:∀(i:Nat)(x y:V),((cs.drop off).take (len*sz))[i]? =some x→cs'[i]? =some y→Frz H x y):Frz H (.sl b off len sz kc) (.fs cs' len)
 |ptr {b off cs cs'} (hg:H.get b=some (.cells cs)) (hl:cs'.length=(cs.drop off).length)
  (h:∀(i:Nat)(x y:V),(cs.drop off)[i]? =some x→cs'[i]? =some y→Frz H x y):Frz H (.ptr b off) (.fp cs')
 |fn {f cs cs'} (hl:cs'.length=cs.length) (h:∀(i:Nat)(x y:V),cs[i]? =some x→cs'[i]? =some y→Frz H x y):Frz H (.fn f cs) (.fn f cs')
 |ifc {t v v'} (h:Frz H v v'):Frz H (.ifc t v) (.ifc t v')
 |agg {cs cs'} (hl:cs'.length=cs.length) (h:∀(i:Nat)(x y:V),cs[i]? =some x→cs'[i]? =some y→Frz H x y):Frz H (.agg cs) (.agg cs')
 |tup {cs cs'} (hl:cs'.length=cs.length) (h:∀(i:Nat)(x y:V),cs[i]? =some x→cs'[i]? =some y→Frz H x y):Frz H (.tup cs) (.tup cs')
def Frz.rel {g g':G}{base:Nat}{H:Hp}{D:Nat→Prop}{w:World}(hi:Inv g base H D w)(hD:∀b,D b)(hp:∀c a,g.phi c=some a→g'.phi c=some a) (ha:∀c arr t,base≤c→w.heap[c]? =some (.cells arr t (0,0))→g'.phi c=some arr) {v v':V} (h:Frz H v v'):∀ {vc:Value},VRel g v vc→VRel g' v' vc:=by
 have list:∀ {l l':ZA} {get:Nat→Option Value},l'.length=l.length→(∀(i:Nat)(x y:V),l[i]? =some x→l'[i]? =some y→∀ {vc:Value},VRel g x vc→VRel g' y vc)→PW g l get→PW g' l' get:=by intro l l' get hl ih p i y hy;have hlt:=(Ys.1 hy).1;obtain⟨u,hu,ru⟩:=p i _ (Yb Zo);exact⟨u,hu,ih i _ y (Yb Zo) hy ru⟩
 induction h with
 |pure h=>intro vc r;exact r.pure hp h
 |any=>intro vc r;exact .any _
 |nil0=>intro vc r;cases r;exact .fs0 fun _=>rfl
 |@sl b off len sz kc cs cs' hg hl hll _ ih=>
  intro vc r;obtain⟨T,o,cap,hm,hlc,ho,hk,rfl⟩:=r.inv_sl;obtain⟨T1,ob,m1,p1,h1,r1⟩:=hi.cont b _ (hD b) hg;obtain rfl:=ZT hm m1;cases r1 with
  |cells hs hbd hpw=>
   rename_i arr t;have hphi:=ha _ _ _ (hi.dom b T1 hm).2.1 h1;by_cases h0:len*sz=0
   ·have:cs'=[]:=Yz Zo;subst this;by_cases hl0:len=0
    ·subst hl0;exact .fs0 Zs
    exact Xk hphi hlc PW.nil
   have hc:cap≠0:=by rintro rfl;have:len=0:=Zo;subst this;simp at h0
   obtain⟨rfl,_⟩:=ho hc;refine Xk hphi hlc (list (by simp;omega) ih (((hpw.drop off).take (len*sz)).congr fun i _=>?_));show _=arr[T1.sh+(off+i)]?;rw[YO]
 |@slT b off len sz kc t cs cs' hg hl hll _ ih=>
  intro vc r;obtain⟨T,o,cap,hm,hlc,ho,hk,rfl⟩:=r.inv_sl;obtain⟨T1,ob,m1,p1,h1,r1⟩:=hi.cont b _ (hD b) hg;obtain rfl:=ZT hm m1;obtain⟨arr,rfl,hs,hbd,hsh,hpw⟩:=r1.ty_row;have hphi:=ha _ _ _ (hi.dom b T1 hm).2.1 h1;by_cases h0:len*sz=0
  ·have:cs'=[]:=Yz Zo;subst this;by_cases hl0:len=0
   ·subst hl0;exact .fs0 Zs
   exact Xk hphi hlc PW.nil
  have hc:cap≠0:=by rintro rfl;have:len=0:=Zo;subst this;simp at h0
  obtain⟨rfl,_⟩:=ho hc;refine Xk hphi hlc (list (by simp;omega) ih (((hpw.drop off).take (len*sz)).congr fun i _=>?_));show _=arr[T1.sh+(off+i)]?;rw[YO]
 |@ptr b off cs cs' hg hl _ ih=>
  intro vc r;obtain⟨T,hm,rfl⟩:=r.inv_ptr;obtain⟨T1,ob,m1,p1,h1,r1⟩:=hi.cont b _ (hD b) hg;obtain rfl:=ZT hm m1;cases r1 with
  |cells hs hbd hpw=>rename_i arr t;have hphi:=ha _ _ _ (hi.dom b T1 hm).2.1 h1;refine VRel.mk_fp hphi (list hl ih ((hpw.drop off).congr fun i _=>?_));show _=arr[T1.sh+(off+i)]?;rw[YO]
 |fn hl _ ih=>intro vc r;obtain⟨arr,rfl,hs,p⟩:=r.inv_fn;exact Xn Zo (list hl ih p)
 |ifc _ ih=>
  intro vc r;cases r with
  |ifc hv=>exact .ifc (ih hv)
 |agg hl _ ih=>intro vc r;obtain⟨arr,rfl,hs,p⟩:=r.inv_agg;exact Xj Zo (list hl ih p)
 |tup hl _ ih=>intro vc r;obtain⟨arr,rfl,hs,p⟩:=r.inv_tup;exact Xf Zo (list hl ih p)
def zcq:Nat→ZA→Env
 |_,[]=>[]
 |i,a::r=>(i,a)::zcq (i+1) r
def zdk:∀(i:Nat)(l:ZA)(t:Nat)(v:V),(zcq i l).lookup t=some v→i≤t∧l[t-i]? =some v
 |_,[],_,_,h=>by cases h
 |i,a::r,t,v,h=>by
  rw[zcq,YE]at h;by_cases ht:t=i
  ·subst ht;simp at h;simp[h]
  have hb:(t==i)=false:=by simp[ht]
  simp only[hb]at h;obtain⟨h1,h2⟩:=zdk (i+1) r t v h;refine⟨Zo,?_⟩;rw[show t-i=(t-(i+1))+1 by omega];simpa using h2
def tupV:ZA→V
 |[v]=>v
 |vs=>.tup vs
def resL(P:Program)(s:St):List ResultVar→Prop×ZA
 |[]=>(True,[])
 | .tmp t::r=>((resL P s r).1,(s.env.lookup t).getD .any::(resL P s r).2)
 | .cell c t::r=>((zcW P t ((s.env.lookup c).getD .any) s.h).pre∧(resL P s r).1,(zcW P t ((s.env.lookup c).getD .any) s.h).v::(resL P s r).2)
def resP(P:Program)(fn:Func)(s:St):Prop:=(resL P s fn.results.toList).1
def resV(P:Program)(fn:Func)(s:St):V:=tupV (resL P s fn.results.toList).2
def zrP {P:Program}{g:G}{base:Nat}{H:Hp}{D:Nat→Prop}{w:World}(h:Inv g base H D w)(hD:∀b,D b){t:TypeId}{a:V}{ac:Value}(ha:VRel g a ac)(hp:(zcW P t a H).pre):∃v,(do loadVar t (←asAddr ac):Sem Value).run P w=.ok v w∧VRel g (zcW P t a H).v v:=by
 unfold zcW at*;split at hp
 ·rename_i ag n cs hag hn;obtain⟨c,o,arr,rfl,hphi,hpw⟩:=ha.inv_fp;obtain⟨ty,fr,hh⟩:=h.frz _ _ hphi;obtain⟨v,hv,hr⟩:=za6 (P:=P) hag hn hh hpw hp;exact⟨v,by simpa[asAddr]using hv,hr⟩
 ·rename_i ag n b off hag hn;split at hp
  ·rename_i cs hg;obtain⟨T,hm,rfl⟩:=ha.inv_ptr;obtain⟨T1,o,m1,p1,h1,r1⟩:=h.cont b _ (hD b) hg;obtain rfl:=ZT hm m1;cases r1 with
   |cells hs hb hpw=>
    rename_i arr ty;have hpw':PW g (cs.drop off) (fun i=>arr[T1.sh+off+i]?):=(hpw.drop off).congr fun i _=>by show _=arr[T1.sh+(off+i)]?;rw[←YO]
    obtain⟨v,hv,hr⟩:=za6 (P:=P) hag hn h1 hpw' hp;exact⟨v,by simpa[asAddr]using hv,hr⟩
  ·rename_i ty cs hg;obtain⟨T,hm,rfl⟩:=ha.inv_ptr;obtain⟨T1,o,m1,p1,h1,r1⟩:=h.cont b _ (hD b) hg;obtain rfl:=ZT hm m1;obtain⟨arr,rfl,hs,hb,hsh,hpw⟩:=r1.ty_row;have hpw':PW g (cs.drop off) (fun i=>arr[T1.sh+off+i]?):=(hpw.drop off).congr fun i _=>by show _=arr[T1.sh+(off+i)]?;rw[←YO]
   obtain⟨v,hv,hr⟩:=za6 (P:=P) hag hn h1 hpw' hp;exact⟨v,by simpa[asAddr]using hv,hr⟩
  ·rename_i cs hg;obtain⟨T,hm,rfl⟩:=ha.inv_ptr;obtain⟨T1,o,m1,p1,h1,r1⟩:=h.cont b _ (hD b) hg;obtain rfl:=ZT hm m1;obtain⟨arr,ty,fr,rfl,hs,hb,hpw⟩:=r1.ro_row;have hpw':PW g (cs.drop off) (fun i=>arr[T1.sh+off+i]?):=(hpw.drop off).congr fun i _=>by show _=arr[T1.sh+(off+i)]?;rw[←YO]
   obtain⟨v,hv,hr⟩:=za6 (P:=P) hag hn h1 hpw' hp;exact⟨v,by simpa[asAddr]using hv,hr⟩
  exact hp.elim
 exact hp.elim
def zft {P:Program}{fn:Func}{g:G}{n base:Nat}{D:Nat→Prop}{s:St}{a:Act}{w:World}(hI:Inv g base s.h D w)(hD:∀b,D b)(hp:resP P fn s)(r:EnvRel g n s.env a):∃vc,(results fn a.tmps).run P w=.ok vc w∧VRel g (resV P fn s) vc:=by
 have hvs:∀t,VRel g ((s.env.lookup t).getD .any) (a.tmps.getD t undef):=fun t=>by
  cases e:s.env.lookup t with
  |none=>exact .any _
  |some v=>exact r.rel t v e
 have hrun:∀rs:List ResultVar,(resL P s rs).1→∃vs:List Value,vs.length=(resL P s rs).2.length∧PW g (resL P s rs).2 (fun i=>vs[i]?)∧
  (List.mapM (fun(x:ResultVar)=>match x with| .tmp t=>(pure (a.tmps.getD t undef):Sem Value)| .cell c t=>do loadVar t (←asAddr (a.tmps.getD c undef))) rs).run P w=.ok vs w:=by
  intro rs
  induction rs with
  |nil=>intro _;exact⟨[],rfl,PW.nil,rfl⟩
  |cons x rs ih=>
   have put:∀(v:V)(vc:Value)(l:ZA)(vs:List Value),VRel g v vc→PW g l (fun i=>vs[i]?)→PW g (v::l) (fun i=>(vc::vs)[i]?):=by
    intro v vc l vs hv hl i y hy;cases i with
    |zero=>cases hy;exact⟨vc,rfl,hv⟩
    |succ i=>exact hl i y hy
   cases x with
   |tmp t=>
    intro hp
    obtain⟨vs,h1,h2,h3⟩:=ih hp
    refine⟨a.tmps.getD t undef::vs,by simp[resL,h1],put _ _ _ _ (hvs t) h2,?_⟩
    rw[List.mapM_cons]
    simp only[pure_bind,Sem.run_bind,h3,Result.andThen_ok,Sem.run_pure]
   |cell c t=>
    intro hp
    obtain⟨vs,h1,h2,h3⟩:=ih hp.2
    obtain⟨v,hv,hr⟩:=zrP hI hD (hvs c) hp.1
    refine⟨v::vs,by simp[resL,h1],put _ _ _ _ hr h2,?_⟩
    rw[List.mapM_cons]
    have hv':=hv
    simp only[Sem.run_bind]at hv' ⊢
    rw[hv']
    simp only[h3,Result.andThen_ok,Sem.run_pure]
 obtain⟨vs,h1,h2,h3⟩:=hrun fn.results.toList hp;have hres:(results fn a.tmps).run P w=.ok (if h:vs.toArray.size=1 then vs.toArray[0]else .tuple vs.toArray) w:=by simp only[results];have he:fn.results=fn.results.toList.toArray:=Zs;rw[he];simp only[List.mapM_toArray,Sem.run_bind,map_eq_pure_bind,Sem.run_pure];exact Ya1 (fun r=>(Result.andThen r fun a w'=>Result.ok a.toArray w').andThen fun a w'=>Result.ok (if h:a.size=1 then a[0]else Value.tuple a) w') h3
 rw[hres];refine⟨_,rfl,?_⟩;unfold resV;generalize resL P s fn.results.toList=rl at h1 h2;obtain⟨q,l⟩:=rl;dsimp only at h1 h2 ⊢;match l,vs,h1,h2 with
 |[],[],_,_=>exact Xf rfl PW.nil
 |[v],[u],_,h2=>obtain⟨u',hu,hr⟩:=h2 0 v rfl;cases hu;exact hr
 |v::v'::l,u::u'::us,h1,h2=>rw[dif_neg Zs];exact Xf (by simpa using h1) (h2.congr fun i _=>Zs)
 |[],_::_,h1,_=>simp at h1
 |_::_,[],h1,_=>simp at h1
 |[_],_::_::_,h1,_=>simp at h1
 |_::_::_,[_],h1,_=>simp at h1
def EndOK(P:Program)(fn:Func)(r:PR):Out→St→Prop
 | .norm,s| .ret,s=>resP P fn s∧∃v,r=.ret v∧Frz s.h (resV P fn s) v
 | .panic v0,s=>∃v,r=.panic v∧Frz s.h v0 v
 |_,_=>False
def PCall.of {P:Program}{C:Cfg}{f:FuncId}{fn:Func}{c:Code}{args:ZA}{r:PR}(hc:zk P f)(hf:P.funcs[f]? =some fn)(hb:fn.body=some c)(hnt:fn.ntmps=C.nt)(hle:args.length≤C.nt) (hpure:∀x∈args,Pure x) (hnx:C.nx=0) (hW:C.Wm=[]) (hdl:C.dl=[]) (h:AX C P c ⟨zcq 0 args,⟨[],0⟩⟩ (EndOK P fn r)):PCall P f args r:=by
 refine fun g w vs hgl hfrz hvs hpw=>.inl ⟨hc vs w,calls_of_wp hf hb ?_⟩;let g0:G:=⟨fun _=>none,g.phi⟩
 let H0:Hp:=⟨[],0⟩
 have hinv:Inv g0 w.heap.size H0 (fun _=>True) w:=
  ⟨hfrz,fun b T e=>(by cases e),fun b x e=>(by cases e),fun b x _ e=>(by cases e),fun b b' x x' T T' _ _ e=>(by cases e),Yc _⟩
 have he:Entry C w.heap.size (fun _=>True) g0 H0 w:=⟨hinv,hnx.symm,fun _ _=>trivial⟩;have hpost:Post g0 g0 w.heap.size H0 H0 (fun _=>True) C.Wm w w:=(Post.refl hinv rfl rfl ⟨rfl,Yc _⟩ rfl).weaken (fun _ h=>by cases h);have hr:Rel C w.heap.size (fun _=>True) g0 H0 w g0 ⟨zcq 0 args,⟨[],0⟩⟩ { tmps:=vs++Array.replicate (fn.ntmps-vs.size) undef,defers:=[] } w:=by
  refine⟨⟨hgl.mono (fun c a e=>e),by simp;omega,fun t v e=>?_⟩,hdl.symm,hpost⟩;obtain⟨_,h1⟩:=zdk 0 args t v e;have hlt:=(Ys.1 h1).1;obtain⟨u,hu,ru⟩:=hpw _ _ h1;have hu':vs[t]? =some u:=hu;have:(vs++Array.replicate (fn.ntmps-vs.size) undef).getD t undef=u:=by rw[YU,YaS (by simp at hlt;omega),hu'];rfl
  rw[this];exact VRel.pure (g:=g) (g':=g0) (fun c a e=>e) ru (hpure v (YV h1))
 refine wp_mono (h w.heap.size _ g0 H0 w g0 _ w he hr) fun e a w' ⟨o,s,g1,h1,h2,h3⟩=>?_;have hbel:Bel w.heap.size w w':=⟨h3.post.os,h3.post.tape,h3.post.output,h3.post.size,fun k hk=>h3.post.frame k hk fun b hb=>by rw[hW]at hb;cases hb⟩;let phi':Nat→Option (Array Value):=fun c=>if w.heap.size≤c then(match w'.heap[c]? with|some (.cells arr _ _)=>some arr|_=>none)else none
 have hphi:∀c a,phi' c=some a→w.heap.size≤c∧∃t fr,w'.heap[c]? =some (.cells a t fr):=by
  intro c a e;simp only[phi']at e;split at e
  ·rename_i hc';refine⟨hc',?_⟩;split at e
   ·rename_i arr t fr h';cases e;exact⟨t,fr,h'⟩
   cases e
  cases e
 have up:∀ {v v':V},Frz s.h v v'→∀ {vc:Value},VRel g1 v vc→VRel (G.more ⟨fun _=>none,g.phi⟩ phi') v' vc:=by
  intro v v' hz vc hv;refine hz.rel h3.post.inv (fun b=>.inl trivial) (fun c a e=>?_) (fun c arr t hge hcell=>?_) hv
  ·rcases h3.post.newphi c a e with e0|hge
   ·show (g.phi c).or (phi' c)=some a;have e0':g.phi c=some a:=e0;rw[e0'];rfl
   obtain⟨t,fr,hh⟩:=h3.post.inv.frz c a e;show (g.phi c).or (phi' c)=some a;have hn:g.phi c=none:=by
    cases e9:g.phi c with
    |none=>rfl
    |some a9=>obtain⟨t9,fr9,h9⟩:=hfrz c a9 e9;have:=(YA.1 h9).1;omega
   rw[hn];simp only[phi',Yi hge,hh];rfl
  show (g.phi c).or (phi' c)=some arr;have hn:g.phi c=none:=by
   cases e9:g.phi c with
   |none=>rfl
   |some a9=>obtain⟨t9,fr9,h9⟩:=hfrz c a9 e9;have:=(YA.1 h9).1;omega
  rw[hn];simp only[phi',Yi hge,hcell];rfl
 have fin:∀v,r=.ret v→resP P fn s→Frz s.h (resV P fn s) v→a.defers=[]∧∃vc,(results fn a.tmps).run P w'=.ok vc w'∧∃phi' vc',(∀c a,phi' c=some a→w.heap.size≤c∧∃t fr,w'.heap[c]? =some (.cells a t fr))∧
  Bel w.heap.size w w'∧Ending.returned vc=r.ending vc'∧VRel (G.more ⟨fun _=>none,g.phi⟩ phi') r.v vc':=by
  rintro v rfl hrp hz
  obtain⟨vc,hrun,hv⟩:=zft (P:=P) (w:=w') h3.post.inv (fun b=>.inl trivial) hrp h3.env
  exact⟨h3.defers.trans hdl,vc,hrun,phi',vc,hphi,hbel,rfl,up hz hv⟩
 cases o<;>cases e<;>first|exact h2.elim|skip
 ·obtain⟨hrp,v,hr,hz⟩:=h1;exact fin v hr hrp hz
 ·exact h1.elim
 ·obtain⟨hrp,v,hr,hz⟩:=h1;exact fin v hr hrp hz
 obtain⟨v,rfl,hz⟩:=h1;obtain⟨vc,hv,rfl⟩:=h2;exact⟨h3.defers.trans hdl,phi',vc,hphi,hbel,rfl,up hz hv⟩
end Go.Ab
