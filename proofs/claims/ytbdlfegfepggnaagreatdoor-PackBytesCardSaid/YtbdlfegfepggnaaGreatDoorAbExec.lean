/- Code over abstract states: triples, what computes them, and the contract of a function from its body's. -/
import Derived.Test.YtbdlfegfepggnaaGreatDoorAbDraw3
import Derived.LoopN
set_option linter.all false
set_option maxHeartbeats 16000000
set_option maxRecDepth 100000
noncomputable section
namespace Go.Ab
def least(p:Nat→Prop)(h:∃n,p n):∃n,p n∧∀m,p m→n≤m:=by
 obtain⟨n,hn⟩:=h;induction n using Nat.strongRecOn with
 |_ n ih=>
  by_cases hc:∃m,m<n∧p m
  ·obtain⟨m,h1,h2⟩:=hc;exact ih m h1 h2
  exact⟨n,hn,fun m hm=>Yaa fun hlt=>hc ⟨m,hlt,hm⟩⟩
def AX(C:Cfg)(P:Program)(c:Code)(s:St)(K:Out→St→Prop):Prop:=
 ∀(base:Nat)(D:Nat→Prop)(g0:G)(H0:Hp)(w0:World)(g:G)(a:Act)(w:World),Entry C base D g0 H0 w0→Rel C base D g0 H0 w0 g s a w→c.wp P (Aft C base D g0 H0 w0 K) a w
def Out.norm? :Out→Bool
 | .norm=>true
 |_=>false
def zgO(next:St→Prop)(K:Out→St→Prop):Out→St→Prop
 | .norm,s=>next s
 |o,s=>K o s
def zsC(id:Nat)(K:Out→St→Prop):Out→St→Prop
 | .exit i,s=>if i=id then K .norm s else K (.exit i) s
 |o,s=>K o s
def zb1(keep:Nat→Bool)(K:Out→St→Prop):Out→St→Prop
 | .norm,s=>K .norm (s.trim keep)
 |o,s=>K o s
variable {C:Cfg}{P:Program}{K K':Out→St→Prop}{s:St}
def AX.mono {c:Code}(h:AX C P c s K)(hk:∀o s,K o s→K' o s):AX C P c s K':=fun base D g0 H0 w0 g a w he r=>
 wp_mono (h base D g0 H0 w0 g a w he r) fun _ _ _ ⟨o,s,g,h1,h2⟩=>⟨o,s,g,hk o s h1,h2⟩
def AX.sub {c:Code}{s':St}(hs:Sub C s s')(h:AX C P c s' K):AX C P c s K:=fun base D g0 H0 w0 _ a w he r=>
 let ⟨g',r'⟩:=r.sub he hs
 h base D g0 H0 w0 g' a w he r'
def AX.skip(h:K .norm s):AX C P .skip s K:=fun _ _ _ _ _ g _ _ _ r=>wp_skip ⟨.norm,s,g,h,trivial,r⟩
def AX.ret(h:K .ret s):AX C P .ret s K:=fun _ _ _ _ _ g _ _ _ r=>wp_ret ⟨.ret,s,g,h,trivial,r⟩
def AX.exit {id:Nat}(h:K (.exit id) s):AX C P (.exit id) s K:=fun _ _ _ _ _ g _ _ _ r=>wp_exit ⟨.exit id,s,g,h,rfl,r⟩
def AX.seq {x y:Code}(h:AX C P x s (zgO (fun s=>AX C P y s K) K)):AX C P (.seq x y) s K:=fun base D g0 H0 w0 g a w he r=>
 wp_seq (wp_mono (h base D g0 H0 w0 g a w he r) fun e a w ⟨o,s,g,h1,h2,h3⟩=>by
  cases o<;>cases e<;>first|exact h2.elim|skip
  ·exact h1 base D g0 H0 w0 g a w he h3
  ·exact⟨_,s,g,h1,h2,h3⟩
  ·exact⟨_,s,g,h1,h2,h3⟩
  exact⟨_,s,g,h1,h2,h3⟩)
def AX.block {id:Nat}{x:Code}(h:AX C P x s (zsC id K)):AX C P (.block id x) s K:=fun base D g0 H0 w0 g a w he r=>
 wp_block (wp_mono (h base D g0 H0 w0 g a w he r) fun e a w ⟨o,s,g,h1,h2,h3⟩=>by
  cases o<;>cases e<;>first|exact h2.elim|skip
  ·exact⟨_,s,g,h1,h2,h3⟩
  ·rename_i i j _;obtain rfl:i=j:=h2;show (if i=id then _ else _);simp only[zsC]at h1;split
   ·rename_i hi;rw[Yi hi]at h1;exact⟨.norm,s,g,h1,trivial,h3⟩
   rename_i hi;rw[Yh hi]at h1;exact⟨.exit i,s,g,h1,rfl,h3⟩
  ·exact⟨_,s,g,h1,h2,h3⟩
  exact⟨_,s,g,h1,h2,h3⟩)
def AX.cond {c:Operand}{x y:Code}{b:Bool}(hb:ev s.env c=.bool b)(h:if b=true then AX C P x s K else AX C P y s K):AX C P (.cond c x y) s K:=fun base D g0 H0 w0 g a w he r=>by
 have hr:=r.env.ev c;rw[hb]at hr;have hc:=hr.inv_bool;cases b with
 |true=>exact wp_cond hc (h base D g0 H0 w0 g a w he r)
 |false=>exact wp_cond hc (h base D g0 H0 w0 g a w he r)
def AX.loop {x:Code}{ι:Type}(inv:ι→St)(p:ι→Prop)(m:ι→Nat)(i0:ι)(h0:p i0)(hs:Sub C s (inv i0)) (h:∀i,p i→AX C P x (inv i) (zgO (fun s'=>∃j,p j∧m j<m i∧Sub C s' (inv j)) K)):AX C P (.loop x) s K:=fun base D g0 H0 w0 g a w he r=>by
 obtain⟨g1,r1⟩:=r.sub he hs;let I:Nat→Act→World→Prop:=fun n a w=>∃i g,p i∧m i=n∧Rel C base D g0 H0 w0 g (inv i) a w
 have key:∀n a w,I n a w→(Code.loop x).wp P (Aft C base D g0 H0 w0 K) a w:=by
  intro n a w hI;classical
  refine wp_loop (fun a w=>∃n,I n a w) (fun a w=>if h:∃n,I n a w then Classical.choose (least (fun n=>I n a w) h)else 0) ⟨n,hI⟩ ?_;intro a w hE;have hf:=(Yat (least (fun n=>I n a w) hE)).1;obtain⟨i,g,hp,hmi,hr⟩:=hf;refine wp_mono (h i hp base D g0 H0 w0 g a w he hr) fun e a' w' ⟨o,s,g,h1,h2,h3⟩=>?_;cases o<;>cases e<;>first|exact h2.elim|skip
  ·obtain⟨j,hpj,hlt,hsub⟩:=h1;obtain⟨g',r'⟩:=h3.sub he hsub;have hj:I (m j) a' w':=⟨j,g',hpj,rfl,r'⟩;refine⟨⟨_,hj⟩,?_⟩;rw[dif_pos ⟨_,hj⟩,dif_pos hE];have:=(Yat (least (fun n=>I n a' w') ⟨_,hj⟩)).2 _ hj;omega
  ·exact⟨_,s,g,h1,h2,h3⟩
  ·exact⟨_,s,g,h1,h2,h3⟩
  exact⟨_,s,g,h1,h2,h3⟩
 exact key _ a w ⟨i0,g1,h0,rfl,r1⟩
def AXn(C:Cfg)(P:Program)(x:Code)(K:Out→St→Prop):Nat→St→Prop
 |0,_=>False
 |n+1,s=>AX C P x s (zgO (AXn C P x K n) K)
def AX.rounds {C:Cfg}{x:Code}{K:Out→St→Prop}(n:Nat){s:St}(h:AXn C P x K n s):AX C P (.loop x) s K:=fun base D g0 H0 w0 g a w he r=>by
 refine wp_loop_rounds n ?_;have key:∀n s g a w,AXn C P x K n s→Rel C base D g0 H0 w0 g s a w→Code.rounds P x (Aft C base D g0 H0 w0 K) n a w:=by
  intro n;induction n with
  |zero=>intro s g a w h _;exact h.elim
  |succ n ih=>
   intro s g a w h r;rw[rounds_succ];refine wp_mono (h base D g0 H0 w0 g a w he r) fun e a' w' ⟨o,s,g,h1,h2,h3⟩=>?_;cases o<;>cases e<;>first|exact h2.elim|skip
   ·exact ih s g a' w' h1 h3
   ·exact⟨_,s,g,h1,h2,h3⟩
   ·exact⟨_,s,g,h1,h2,h3⟩
   exact⟨_,s,g,h1,h2,h3⟩
 exact key n s g a w h r
def zpg(nt:Nat)(os:List Oper):Bool:=os.all fun o=>match o.dst with|some d=>decide (d<nt)|none=>true
def zas(nt:Nat):Code→Bool
 | .region _ ops d=>zpg nt ops.toList&&(!d||zcM ops)
 | .seq a b=>zas nt a&&zas nt b
 | .cond _ a b=>zas nt a&&zas nt b
 | .block _ a=>zas nt a
 | .loop a=>zas nt a
 |_=>true
def zbC {nt:Nat}{os:List Oper}(h:zpg nt os=true):∀o∈os,∀d,o.dst=some d→d<nt:=fun o ho d e=>by have:=Yo.1 h o ho;rw[e]at this;simpa using this
def AX.region {id:Nat}{ops:Array Oper}(hΓ:zcz P C)(hok:zpg C.nt ops.toList=true)(h:ARun C P ops ops.toList s (zb1 C.keep K)):AX C P (.region id ops false) s K:=fun base D g0 H0 w0 g a w he r=>by
 refine wp_region ?_;have hq:∀e a w,Aft C base D g0 H0 w0 (zb1 C.keep K) e a w→Aft C base D g0 H0 w0 K e a w:=fun e a w ⟨o,s,g,h1,h2,h3⟩=>by
  cases o with
  |norm=>exact⟨.norm,s.trim C.keep,g,h1,h2,h3.env.trim C.keep,h3.defers,h3.post⟩
  |exit i=>exact⟨_,s,g,h1,h2,h3⟩
  |ret=>exact⟨_,s,g,h1,h2,h3⟩
  |panic v=>exact⟨_,s,g,h1,h2,h3⟩
 have:=zfi he hΓ (zbC hok) (Aft C base D g0 H0 w0 K) hq ops.toList 0 rfl s g a w r h;rw[Yco];simpa using this
def Xu {id:Nat}{ops:Array Oper}(hm:P.follows .mixedOrders=true)(hok:zpg C.nt ops.toList=true)(hdr:zcM ops=true) (h:(∀b x,s.h.get b=some x→b<s.h.next)→∃m S v f,DEnd C P ops s (zb1 C.keep K) m S v f):AX C P (.region id ops true) s K:=fun base D g0 H0 w0 g a w he r=>by
 obtain⟨m,S,v,f,T⟩:=h r.post.inv.keys;refine wp_region_any hm ?_;have hp:Post g g base s.h s.h (fun b=>D b∨H0.next≤b) [] w { w with drawn:=w.drawn+1 }:=Post.refl r.post.inv rfl rfl ⟨rfl,zuV (Ybt _)⟩ rfl;have r':Rel C base D g0 H0 w0 g s a { w with drawn:=w.drawn+1 }:=⟨r.env,r.defers,r.step he hp rfl⟩;refine draw_ok he T hdr (zbC hok) r' _ fun e a w ⟨o,s,g,h1,h2,h3⟩=>?_;cases o with
 |norm=>exact⟨.norm,s.trim C.keep,g,h1,h2,h3.env.trim C.keep,h3.defers,h3.post⟩
 |exit i=>exact⟨_,s,g,h1,h2,h3⟩
 |ret=>exact⟨_,s,g,h1,h2,h3⟩
 |panic v=>exact⟨_,s,g,h1,h2,h3⟩
def AX.draw {id:Nat}{ops:Array Oper}(hm:P.follows .mixedOrders=true)(hΓ:zcz P C)(hok:zpg C.nt ops.toList=true)(hdr:zcM ops=true)(h:DRun C P ops ops.toList 0 s [] (zb1 C.keep K)):AX C P (.region id ops true) s K:=Xu hm hok hdr fun hk=>by obtain⟨m,S,v,f,acc',T⟩:=zoq hΓ ops.toList 0 (Yk _) rfl s [] h;exact⟨m,S,v,f,T.toEnd hdr hk (zbC hok)⟩
def AX.next {C:Cfg}{s:St}{K:Out→St→Prop}{id:Nat}{ops:Array Oper}{o:Oper}{os:List Oper}{it:Operand}{l:List XR}(hΓ:zcz P C)(hok:zpg C.nt ops.toList=true)(ho:ops.toList=o::os) (hop:o.op=.next it false) (hg:o.guard=none) (hc:(ev s.env it).cond) (hn:zj8 (rho s.env it) s.h=some l) (h:∀q∈l,wok C q.W=true∧ARun C P ops os ((s.put o.dst q.v).hp q.h) (zb1 C.keep K)):AX C P (.region id ops false) s K:=fun base D g0 H0 w0 g a w he r=>by
 refine wp_region ?_;have hq:∀e a w,Aft C base D g0 H0 w0 (zb1 C.keep K) e a w→Aft C base D g0 H0 w0 K e a w:=fun e a w ⟨o,s,g,h1,h2,h3⟩=>by
  cases o with
  |norm=>exact⟨.norm,s.trim C.keep,g,h1,h2,h3.env.trim C.keep,h3.defers,h3.post⟩
  |exit i=>exact⟨_,s,g,h1,h2,h3⟩
  |ret=>exact⟨_,s,g,h1,h2,h3⟩
  |panic v=>exact⟨_,s,g,h1,h2,h3⟩
 have hlen:ops.size=os.length+1:=by rw[←Y4,ho];rfl
 have ho0:ops[0]? =some o:=by rw[←YE,ho];rfl
 have hdo:∀d,o.dst=some d→d<C.nt:=zbC hok o (by rw[ho];exact YA ..);rw[Yco,hlen,List.range'_succ];simp only[wpOps,ho0];have hw:Region.wanted o (yielded ops a.tmps)=true:=by unfold Region.wanted;rw[hg]
 rw[Yi hw];refine .inl ?_;have hx:VRel g (rho s.env it) (a.eval it):=(r.env.ev it).val hc;obtain⟨q,hql,g',w',vc,hrun,hv,hp⟩:=xNext_ok (P:=P) (ty:=o.type) r.post.inv hx hn (fun q _ b _=>he.inD b);obtain⟨hwk,har⟩:=h q hql;have hrun':(execOp a.eval o).run P w=.ok (.value vc) w':=by unfold execOp;rw[hop];simp[hrun]
 unfold Oper.wp;rw[hrun'];refine zfi he hΓ (zbC hok) (Aft C base D g0 H0 w0 K) hq os 1 (by rw[ho];rfl) ((s.put o.dst q.v).hp q.h) g' _ w' ⟨(r.env.mono hp.le).put hdo hv,?_,r.step he hp hwk⟩ har;cases o.dst<;>exact r.defers
def AX.late {id:Nat}{ops:Array Oper}{i0:Nat}{op0:Op}{j0:Nat}(hm:P.follows .mixedOrders=true)(hΓ:zcz P C)(hok:zpg C.nt ops.toList=true)(hdr:zcM ops=true)(hl:zfF ops.toList=some (i0,op0,j0)) (h:zBz C P ops i0 op0 j0 ops.toList 0 s [] none (zb1 C.keep K)):AX C P (.region id ops true) s K:=Xu hm hok hdr fun hk=>by
 obtain⟨S,v,f,acc',T⟩:=zj3 hΓ ops.toList 0 rfl (Yk _) s [] none h;unfold zfF at hl;split at hl
 ·cases hl
 obtain⟨_,h2,_,o,h4,h5⟩:=zjF hl;exact⟨ops.size,S,v,f,T.toEnd hΓ hdr hk (zbC hok) h2 (by rw[←YE];exact h4) h5⟩
def zfD:List Oper→Option (Option Tmp×Operand×List Oper)
 |[]=>none
 |o::os=>match o.op,o.guard with
  | .next it false,none=>some (o.dst,it,os)
  |_,_=>none
def ANext(C:Cfg)(P:Program)(ops:Array Oper)(os:List Oper)(d:Option Tmp)(c:Prop)(l:Option (List XR))(s:St)(K:Out→St→Prop):Prop:=
 c∧match l with
  |some l=>∀q∈l,wok C q.W=true∧ARun C P ops os ((s.put d q.v).hp q.h) K
  |none=>False
def ARunN(C:Cfg)(P:Program)(ops:Array Oper)(n:Option (Option Tmp×Operand×List Oper))(s:St)(K:Out→St→Prop):Prop:=
 match n with
 |some (d,it,os)=>ANext C P ops os d (ev s.env it).cond (zj8 (rho s.env it) s.h) s K
 |none=>ARun C P ops ops.toList s K
def DRunN(C:Cfg)(P:Program)(ops:Array Oper)(n:Option (Nat×Op×Nat))(s:St)(K:Out→St→Prop):Prop:=
 match n with
 |some (i0,op0,j0)=>zBz C P ops i0 op0 j0 ops.toList 0 s [] none K
 |none=>DRun C P ops ops.toList 0 s [] K
def zbw:Code→Bool
 | .loop _=>true
 | .block _ x=>zbw x
 | .seq _ y=>zbw y
 | .cond _ x y=>zbw x||zbw y
 |_=>false
def AXf(C:Cfg)(P:Program):Code→St→(Out→St→Prop)→Prop
 | .skip,s,K=>K .norm s
 | .ret,s,K=>K .ret s
 | .exit id,s,K=>K (.exit id) s
 | .seq x y,s,K=>AXf C P x s (zgO (fun s=>if zbw x=true then AX C P y s K else AXf C P y s K) K)
 | .block id x,s,K=>AXf C P x s (zsC id K)
 | .cond c x y,s,K=>
  match ev s.env c with
  | .bool b=>if b=true then AXf C P x s K else AXf C P y s K
  |_=>False
 | .region _ ops false,s,K=>ARunN C P ops (zfD ops.toList) s (zb1 C.keep K)
 | .region _ ops true,s,K=>DRunN C P ops (zfF ops.toList) s (zb1 C.keep K)
 | .loop x,s,K=>AX C P (.loop x) s K
 |_,_,_=>False
def zc5(hm:P.follows .mixedOrders=true)(hΓ:zcz P C):∀(c:Code)(s:St)(K:Out→St→Prop),zas C.nt c=true→AXf C P c s K→AX C P c s K
 | .skip,_,_,_,h=>AX.skip h
 | .ret,_,_,_,h=>AX.ret h
 | .exit _,_,_,_,h=>AX.exit h
 | .seq x y,s,K,hc,h=>by
  simp only[zas,Yg]at hc;refine AX.seq ((zc5 hm hΓ x s _ hc.1 h).mono fun o s' hk=>?_);cases o with
  |norm=>
   have hk':if zbw x=true then AX C P y s' K else AXf C P y s' K:=hk
   split at hk'
   ·exact hk'
   exact zc5 hm hΓ y s' K hc.2 hk'
  |exit i=>exact hk
  |ret=>exact hk
  |panic v=>exact hk
 | .block id x,s,K,hc,h=>AX.block (zc5 hm hΓ x s _ hc h)
 | .cond c x y,s,K,hc,h=>by
  simp only[zas,Yg]at hc;unfold AXf at h;split at h
  ·rename_i b hb;refine AX.cond hb ?_;split
   ·rename_i ht;rw[Yi ht]at h;exact zc5 hm hΓ x s K hc.1 h
   rename_i ht;rw[Yh ht]at h;exact zc5 hm hΓ y s K hc.2 h
  exact h.elim
 | .region _ ops false,s,K,hc,h=>by
  simp only[zas,Yg]at hc;unfold AXf ARunN at h;split at h
  ·rename_i d it os hn;unfold zfD at hn;split at hn
   ·cases hn
   rename_i o os' ho;split at hn
   ·rename_i it' hop hg;cases hn;obtain⟨h1,h2⟩:=h;split at h2
    ·rename_i l hl;exact AX.next hΓ hc.1 ho hop hg h1 hl h2
    exact h2.elim
   cases hn
  exact AX.region hΓ hc.1 h
 | .region _ ops true,s,K,hc,h=>by
  simp only[zas,Yg,Ybj,YaB]at hc;unfold AXf DRunN at h;split at h
  ·rename_i hl;exact AX.late hm hΓ hc.1 hc.2 hl h
  exact AX.draw hm hΓ hc.1 hc.2 h
 | .loop _,_,_,_,h=>h
 | .rangeFunc ..,_,_,_,h=>h.elim
 | .scope _,_,_,_,h=>h.elim
 | .label _,_,_,_,h=>h.elim
 | .goto _,_,_,_,h=>h.elim
 | .refuse _,_,_,_,h=>h.elim
end Go.Ab

namespace Go.Ab
inductive Frz(H:Hp):V→V→Prop
 |pure {v} (h:Pure v):Frz H v v
 |any {v}:Frz H v .any
 |nil0:Frz H .nilS (.fs [] 0)
 |sl {b off len sz kc cs cs'} (hg:H.get b=some (.cells cs)) (hl:off+len*sz≤cs.length) (hll:cs'.length=len*sz)
  (h:∀(i:Nat)(x y:V),((cs.drop off).take (len*sz))[i]? =some x→cs'[i]? =some y→Frz H x y):Frz H (.sl b off len sz kc) (.fs cs' len)
 |slT {b off len sz kc t cs cs'} (hg:H.get b=some (.ty t cs)) (hl:off+len*sz≤cs.length) (hll:cs'.length=len*sz)
  (h:∀(i:Nat)(x y:V),((cs.drop off).take (len*sz))[i]? =some x→cs'[i]? =some y→Frz H x y):Frz H (.sl b off len sz kc) (.fs cs' len)
 |ptr {b off cs cs'} (hg:H.get b=some (.cells cs)) (hl:cs'.length=(cs.drop off).length)
  (h:∀(i:Nat)(x y:V),(cs.drop off)[i]? =some x→cs'[i]? =some y→Frz H x y):Frz H (.ptr b off) (.fp cs')
 |fn {f cs cs'} (hl:cs'.length=cs.length) (h:∀(i:Nat)(x y:V),cs[i]? =some x→cs'[i]? =some y→Frz H x y):Frz H (.fn f cs) (.fn f cs')
 |ifc {t v v'} (h:Frz H v v'):Frz H (.ifc t v) (.ifc t v')
 |agg {cs cs'} (hl:cs'.length=cs.length) (h:∀(i:Nat)(x y:V),cs[i]? =some x→cs'[i]? =some y→Frz H x y):Frz H (.agg cs) (.agg cs')
 |tup {cs cs'} (hl:cs'.length=cs.length) (h:∀(i:Nat)(x y:V),cs[i]? =some x→cs'[i]? =some y→Frz H x y):Frz H (.tup cs) (.tup cs')
def Frz.rel {g g':G}{base:Nat}{H:Hp}{D:Nat→Prop}{w:World}(hi:Inv g base H D w)(hD:∀b,D b)(hp:∀c a,g.phi c=some a→g'.phi c=some a) (ha:∀c arr t,base≤c→w.heap[c]? =some (.cells arr t (0,0))→g'.phi c=some arr) {v v':V} (h:Frz H v v'):∀ {vc:Value},VRel g v vc→VRel g' v' vc:=by
 have list:∀ {l l':ZA} {get:Nat→Option Value},l'.length=l.length→(∀(i:Nat)(x y:V),l[i]? =some x→l'[i]? =some y→∀ {vc:Value},VRel g x vc→VRel g' y vc)→PW g l get→PW g' l' get:=by intro l l' get hl ih p i y hy;have hlt:=(Yt.1 hy).1;obtain⟨u,hu,ru⟩:=p i _ (Yb Zo);exact⟨u,hu,ih i _ y (Yb Zo) hy ru⟩
 induction h with
 |pure h=>intro vc r;exact r.pure hp h
 |any=>intro vc r;exact .any _
 |nil0=>intro vc r;cases r;exact .fs0 fun _=>rfl
 |@sl b off len sz kc cs cs' hg hl hll _ ih=>
  intro vc r;obtain⟨T,o,cap,hm,hlc,ho,hk,rfl⟩:=r.inv_sl;obtain⟨T1,ob,m1,p1,h1,r1⟩:=hi.cont b _ (hD b) hg;obtain rfl:=ZT hm m1;cases r1 with
  |cells hs hbd hpw=>
   rename_i arr t;have hphi:=ha _ _ _ (hi.dom b T1 hm).2.1 h1;by_cases h0:len*sz=0
   ·have:cs'=[]:=YB Zo;subst this;by_cases hl0:len=0
    ·subst hl0;exact .fs0 Zs
    exact Xl hphi hlc PW.nil
   have hc:cap≠0:=by rintro rfl;have:len=0:=Zo;subst this;simp at h0
   obtain⟨rfl,_⟩:=ho hc;refine Xl hphi hlc (list (by simp;omega) ih (((hpw.drop off).take (len*sz)).congr fun i _=>?_));show _=arr[T1.sh+(off+i)]?;rw[YU]
 |@slT b off len sz kc t cs cs' hg hl hll _ ih=>
  intro vc r;obtain⟨T,o,cap,hm,hlc,ho,hk,rfl⟩:=r.inv_sl;obtain⟨T1,ob,m1,p1,h1,r1⟩:=hi.cont b _ (hD b) hg;obtain rfl:=ZT hm m1;obtain⟨arr,rfl,hs,hbd,hsh,hpw⟩:=r1.ty_row;have hphi:=ha _ _ _ (hi.dom b T1 hm).2.1 h1;by_cases h0:len*sz=0
  ·have:cs'=[]:=YB Zo;subst this;by_cases hl0:len=0
   ·subst hl0;exact .fs0 Zs
   exact Xl hphi hlc PW.nil
  have hc:cap≠0:=by rintro rfl;have:len=0:=Zo;subst this;simp at h0
  obtain⟨rfl,_⟩:=ho hc;refine Xl hphi hlc (list (by simp;omega) ih (((hpw.drop off).take (len*sz)).congr fun i _=>?_));show _=arr[T1.sh+(off+i)]?;rw[YU]
 |@ptr b off cs cs' hg hl _ ih=>
  intro vc r;obtain⟨T,hm,rfl⟩:=r.inv_ptr;obtain⟨T1,ob,m1,p1,h1,r1⟩:=hi.cont b _ (hD b) hg;obtain rfl:=ZT hm m1;cases r1 with
  |cells hs hbd hpw=>rename_i arr t;have hphi:=ha _ _ _ (hi.dom b T1 hm).2.1 h1;refine VRel.mk_fp hphi (list hl ih ((hpw.drop off).congr fun i _=>?_));show _=arr[T1.sh+(off+i)]?;rw[YU]
 |fn hl _ ih=>intro vc r;obtain⟨arr,rfl,hs,p⟩:=r.inv_fn;exact Xo Zo (list hl ih p)
 |ifc _ ih=>
  intro vc r;cases r with
  |ifc hv=>exact .ifc (ih hv)
 |agg hl _ ih=>intro vc r;obtain⟨arr,rfl,hs,p⟩:=r.inv_agg;exact Xj Zo (list hl ih p)
 |tup hl _ ih=>intro vc r;obtain⟨arr,rfl,hs,p⟩:=r.inv_tup;exact Xf Zo (list hl ih p)
def zbY:Nat→ZA→Env
 |_,[]=>[]
 |i,a::r=>(i,a)::zbY (i+1) r
def zcx:∀(i:Nat)(l:ZA)(t:Nat)(v:V),(zbY i l).lookup t=some v→i≤t∧l[t-i]? =some v
 |_,[],_,_,h=>by cases h
 |i,a::r,t,v,h=>by
  rw[zbY,YC]at h;by_cases ht:t=i
  ·subst ht;simp at h;simp[h]
  have hb:(t==i)=false:=by simp[ht]
  simp only[hb]at h;obtain⟨h1,h2⟩:=zcx (i+1) r t v h;refine⟨Zo,?_⟩;rw[show t-i=(t-(i+1))+1 by omega];simpa using h2
def tupV:ZA→V
 |[v]=>v
 |vs=>.tup vs
def resL(P:Program)(s:St):List ResultVar→Prop×ZA
 |[]=>(True,[])
 | .tmp t::r=>((resL P s r).1,(s.env.lookup t).getD .any::(resL P s r).2)
 | .cell c t::r=>((zcr P t ((s.env.lookup c).getD .any) s.h).pre∧(resL P s r).1,(zcr P t ((s.env.lookup c).getD .any) s.h).v::(resL P s r).2)
def resP(P:Program)(fn:Func)(s:St):Prop:=(resL P s fn.results.toList).1
def resV(P:Program)(fn:Func)(s:St):V:=tupV (resL P s fn.results.toList).2
def ztX {P:Program}{g:G}{base:Nat}{H:Hp}{D:Nat→Prop}{w:World}(h:Inv g base H D w)(hD:∀b,D b){t:TypeId}{a:V}{ac:Value}(ha:VRel g a ac)(hp:(zcr P t a H).pre):∃v,(do loadVar t (←asAddr ac):Sem Value).run P w=.ok v w∧VRel g (zcr P t a H).v v:=by
 unfold zcr at*;split at hp
 ·rename_i ag n cs hag hn;obtain⟨c,o,arr,rfl,hphi,hpw⟩:=ha.inv_fp;obtain⟨ty,fr,hh⟩:=h.frz _ _ hphi;obtain⟨v,hv,hr⟩:=zbl (P:=P) hag hn hh hpw hp;exact⟨v,by simpa[asAddr]using hv,hr⟩
 ·rename_i ag n b off hag hn;split at hp
  ·rename_i cs hg;obtain⟨T,hm,rfl⟩:=ha.inv_ptr;obtain⟨T1,o,m1,p1,h1,r1⟩:=h.cont b _ (hD b) hg;obtain rfl:=ZT hm m1;cases r1 with
   |cells hs hb hpw=>
    rename_i arr ty;have hpw':PW g (cs.drop off) (fun i=>arr[T1.sh+off+i]?):=(hpw.drop off).congr fun i _=>by show _=arr[T1.sh+(off+i)]?;rw[←YU]
    obtain⟨v,hv,hr⟩:=zbl (P:=P) hag hn h1 hpw' hp;exact⟨v,by simpa[asAddr]using hv,hr⟩
  ·rename_i ty cs hg;obtain⟨T,hm,rfl⟩:=ha.inv_ptr;obtain⟨T1,o,m1,p1,h1,r1⟩:=h.cont b _ (hD b) hg;obtain rfl:=ZT hm m1;obtain⟨arr,rfl,hs,hb,hsh,hpw⟩:=r1.ty_row;have hpw':PW g (cs.drop off) (fun i=>arr[T1.sh+off+i]?):=(hpw.drop off).congr fun i _=>by show _=arr[T1.sh+(off+i)]?;rw[←YU]
   obtain⟨v,hv,hr⟩:=zbl (P:=P) hag hn h1 hpw' hp;exact⟨v,by simpa[asAddr]using hv,hr⟩
  ·rename_i cs hg;obtain⟨T,hm,rfl⟩:=ha.inv_ptr;obtain⟨T1,o,m1,p1,h1,r1⟩:=h.cont b _ (hD b) hg;obtain rfl:=ZT hm m1;obtain⟨arr,ty,fr,rfl,hs,hb,hpw⟩:=r1.ro_row;have hpw':PW g (cs.drop off) (fun i=>arr[T1.sh+off+i]?):=(hpw.drop off).congr fun i _=>by show _=arr[T1.sh+(off+i)]?;rw[←YU]
   obtain⟨v,hv,hr⟩:=zbl (P:=P) hag hn h1 hpw' hp;exact⟨v,by simpa[asAddr]using hv,hr⟩
  exact hp.elim
 exact hp.elim
def zeF {P:Program}{fn:Func}{g:G}{n base:Nat}{D:Nat→Prop}{s:St}{a:Act}{w:World}(hI:Inv g base s.h D w)(hD:∀b,D b)(hp:resP P fn s)(r:EnvRel g n s.env a):∃vc,(results fn a.tmps).run P w=.ok vc w∧VRel g (resV P fn s) vc:=by
 have hvs:∀t,VRel g ((s.env.lookup t).getD .any) (a.tmps.getD t undef):=fun t=>by
  cases e:s.env.lookup t with
  |none=>exact .any _
  |some v=>exact r.rel t v e
 have hrun:∀rs:List ResultVar,(resL P s rs).1→∃vs:List Value,vs.length=(resL P s rs).2.length∧PW g (resL P s rs).2 (fun i=>vs[i]?)∧
  (List.mapM (fun(x:ResultVar)=>match x with| .tmp t=>(pure (a.tmps.getD t undef):Sem Value)| .cell c t=>do loadVar t (←asAddr (a.tmps.getD c undef))) rs).run P w=.ok vs w:=by
  intro rs
  induction rs with
  |nil=>intro _;exact⟨[],rfl,PW.nil,rfl⟩
  |cons x rs ih=>
   have put:∀(v:V)(vc:Value)(l:ZA)(vs:List Value),VRel g v vc→PW g l (fun i=>vs[i]?)→PW g (v::l) (fun i=>(vc::vs)[i]?):=by
    intro v vc l vs hv hl i y hy;cases i with
    |zero=>cases hy;exact⟨vc,rfl,hv⟩
    |succ i=>exact hl i y hy
   cases x with
   |tmp t=>
    intro hp
    obtain⟨vs,h1,h2,h3⟩:=ih hp
    refine⟨a.tmps.getD t undef::vs,by simp[resL,h1],put _ _ _ _ (hvs t) h2,?_⟩
    rw[List.mapM_cons]
    simp only[pure_bind,Sem.run_bind,h3,Result.andThen_ok,Sem.run_pure]
   |cell c t=>
    intro hp
    obtain⟨vs,h1,h2,h3⟩:=ih hp.2
    obtain⟨v,hv,hr⟩:=ztX hI hD (hvs c) hp.1
    refine⟨v::vs,by simp[resL,h1],put _ _ _ _ hr h2,?_⟩
    rw[List.mapM_cons]
    have hv':=hv
    simp only[Sem.run_bind]at hv' ⊢
    rw[hv']
    simp only[h3,Result.andThen_ok,Sem.run_pure]
 obtain⟨vs,h1,h2,h3⟩:=hrun fn.results.toList hp;have hres:(results fn a.tmps).run P w=.ok (if h:vs.toArray.size=1 then vs.toArray[0]else .tuple vs.toArray) w:=by simp only[results];have he:fn.results=fn.results.toList.toArray:=Zs;rw[he];simp only[List.mapM_toArray,Sem.run_bind,map_eq_pure_bind,Sem.run_pure];exact YaZ (fun r=>(Result.andThen r fun a w'=>Result.ok a.toArray w').andThen fun a w'=>Result.ok (if h:a.size=1 then a[0]else Value.tuple a) w') h3
 rw[hres];refine⟨_,rfl,?_⟩;unfold resV;generalize resL P s fn.results.toList=rl at h1 h2;obtain⟨q,l⟩:=rl;dsimp only at h1 h2 ⊢;match l,vs,h1,h2 with
 |[],[],_,_=>exact Xf rfl PW.nil
 |[v],[u],_,h2=>obtain⟨u',hu,hr⟩:=h2 0 v rfl;cases hu;exact hr
 |v::v'::l,u::u'::us,h1,h2=>rw[dif_neg Zs];exact Xf (by simpa using h1) (h2.congr fun i _=>Zs)
 |[],_::_,h1,_=>simp at h1
 |_::_,[],h1,_=>simp at h1
 |[_],_::_::_,h1,_=>simp at h1
 |_::_::_,[_],h1,_=>simp at h1
def EndOK(P:Program)(fn:Func)(r:PR):Out→St→Prop
 | .norm,s| .ret,s=>resP P fn s∧∃v,r=.ret v∧Frz s.h (resV P fn s) v
 | .panic v0,s=>∃v,r=.panic v∧Frz s.h v0 v
 |_,_=>False
def PCall.of {P:Program}{C:Cfg}{f:FuncId}{fn:Func}{c:Code}{args:ZA}{r:PR}(hc:zk P f)(hf:P.funcs[f]? =some fn)(hb:fn.body=some c)(hnt:fn.ntmps=C.nt)(hle:args.length≤C.nt) (hpure:∀x∈args,Pure x) (hnx:C.nx=0) (hW:C.Wm=[]) (hdl:C.dl=[]) (h:AX C P c ⟨zbY 0 args,⟨[],0⟩⟩ (EndOK P fn r)):PCall P f args r:=by
 refine fun g w vs hgl hfrz hvs hpw=>.inl ⟨hc vs w,calls_of_wp hf hb ?_⟩;let g0:G:=⟨fun _=>none,g.phi⟩
 let H0:Hp:=⟨[],0⟩
 have hinv:Inv g0 w.heap.size H0 (fun _=>True) w:=
  ⟨hfrz,fun b T e=>(by cases e),fun b x e=>(by cases e),fun b x _ e=>(by cases e),fun b b' x x' T T' _ _ e=>(by cases e),Yc _⟩
 have he:Entry C w.heap.size (fun _=>True) g0 H0 w:=⟨hinv,hnx.symm,fun _ _=>trivial⟩;have hpost:Post g0 g0 w.heap.size H0 H0 (fun _=>True) C.Wm w w:=(Post.refl hinv rfl rfl ⟨rfl,Yc _⟩ rfl).weaken (fun _ h=>by cases h);have hr:Rel C w.heap.size (fun _=>True) g0 H0 w g0 ⟨zbY 0 args,⟨[],0⟩⟩ { tmps:=vs++Array.replicate (fn.ntmps-vs.size) undef,defers:=[] } w:=by
  refine⟨⟨hgl.mono (fun c a e=>e),by simp;omega,fun t v e=>?_⟩,hdl.symm,hpost⟩;obtain⟨_,h1⟩:=zcx 0 args t v e;have hlt:=(Yt.1 h1).1;obtain⟨u,hu,ru⟩:=hpw _ _ h1;have hu':vs[t]? =some u:=hu;have:(vs++Array.replicate (fn.ntmps-vs.size) undef).getD t undef=u:=by rw[Y2,YaV (by simp at hlt;omega),hu'];rfl
  rw[this];exact VRel.pure (g:=g) (g':=g0) (fun c a e=>e) ru (hpure v (Y0 h1))
 refine wp_mono (h w.heap.size _ g0 H0 w g0 _ w he hr) fun e a w' ⟨o,s,g1,h1,h2,h3⟩=>?_;have hbel:Bel w.heap.size w w':=⟨h3.post.os,h3.post.tape,h3.post.output,h3.post.size,fun k hk=>h3.post.frame k hk fun b hb=>by rw[hW]at hb;cases hb⟩;let phi':Nat→Option (Array Value):=fun c=>if w.heap.size≤c then(match w'.heap[c]? with|some (.cells arr _ _)=>some arr|_=>none)else none
 have hphi:∀c a,phi' c=some a→w.heap.size≤c∧∃t fr,w'.heap[c]? =some (.cells a t fr):=by
  intro c a e;simp only[phi']at e;split at e
  ·rename_i hc';refine⟨hc',?_⟩;split at e
   ·rename_i arr t fr h';cases e;exact⟨t,fr,h'⟩
   cases e
  cases e
 have up:∀ {v v':V},Frz s.h v v'→∀ {vc:Value},VRel g1 v vc→VRel (G.more ⟨fun _=>none,g.phi⟩ phi') v' vc:=by
  intro v v' hz vc hv;refine hz.rel h3.post.inv (fun b=>.inl trivial) (fun c a e=>?_) (fun c arr t hge hcell=>?_) hv
  ·rcases h3.post.newphi c a e with e0|hge
   ·show (g.phi c).or (phi' c)=some a;have e0':g.phi c=some a:=e0;rw[e0'];rfl
   obtain⟨t,fr,hh⟩:=h3.post.inv.frz c a e;show (g.phi c).or (phi' c)=some a;have hn:g.phi c=none:=by
    cases e9:g.phi c with
    |none=>rfl
    |some a9=>obtain⟨t9,fr9,h9⟩:=hfrz c a9 e9;have:=(YF.1 h9).1;omega
   rw[hn];simp only[phi',Yi hge,hh];rfl
  show (g.phi c).or (phi' c)=some arr;have hn:g.phi c=none:=by
   cases e9:g.phi c with
   |none=>rfl
   |some a9=>obtain⟨t9,fr9,h9⟩:=hfrz c a9 e9;have:=(YF.1 h9).1;omega
  rw[hn];simp only[phi',Yi hge,hcell];rfl
 have fin:∀v,r=.ret v→resP P fn s→Frz s.h (resV P fn s) v→a.defers=[]∧∃vc,(results fn a.tmps).run P w'=.ok vc w'∧∃phi' vc',(∀c a,phi' c=some a→w.heap.size≤c∧∃t fr,w'.heap[c]? =some (.cells a t fr))∧
  Bel w.heap.size w w'∧Ending.returned vc=r.ending vc'∧VRel (G.more ⟨fun _=>none,g.phi⟩ phi') r.v vc':=by
  rintro v rfl hrp hz
  obtain⟨vc,hrun,hv⟩:=zeF (P:=P) (w:=w') h3.post.inv (fun b=>.inl trivial) hrp h3.env
  exact⟨h3.defers.trans hdl,vc,hrun,phi',vc,hphi,hbel,rfl,up hz hv⟩
 cases o<;>cases e<;>first|exact h2.elim|skip
 ·obtain⟨hrp,v,hr,hz⟩:=h1;exact fin v hr hrp hz
 ·exact h1.elim
 ·obtain⟨hrp,v,hr,hz⟩:=h1;exact fin v hr hrp hz
 obtain⟨v,rfl,hz⟩:=h1;obtain⟨vc,hv,rfl⟩:=h2;exact⟨h3.defers.trans hdl,phi',vc,hphi,hbel,rfl,up hz hv⟩
end Go.Ab

namespace Go.Ab
def numB:Nat→List Blk→ZH
 |_,[]=>[]
 |i,x::r=>(i,x)::numB (i+1) r
def zdH:∀(i:Nat)(l:List Blk)(t:Nat),(numB i l).lookup t=if i≤t then l[t-i]? else none
 |i,[],t=>by simp[numB]
 |i,a::r,t=>by
  rw[numB,YC];by_cases ht:t=i
  ·subst ht;simp
  have hb:(t==i)=false:=by simp[ht]
  simp only[hb,zdH (i+1) r t];by_cases hi:i+1≤t
  ·rw[Yi hi,Yi Zo,show t-i=(t-(i+1))+1 by omega];simp
  rw[Yh hi,Yh Zo]
structure NCall(P:Program)(f:FuncId)(args:ZA)(F:List Blk)(W:ZN)(v:V)(Hc:Hp):Prop where
 call:zk P f
 sub:∀b∈W,b<F.length
 le:F.length≤Hc.next
 run:∀(g:G)(base:Nat)(w:World)(vs:Array Value),GOK g→Inv g base ⟨numB 0 F,F.length⟩ (fun _=>True) w→vs.size=args.length→PW g args (fun i=>vs[i]?)→
  Calls P f vs w fun e w'=>∃g' vc,e=.returned vc∧VRel g' v vc∧Post g g' base ⟨numB 0 F,F.length⟩ Hc (fun _=>True) W w w'
def NCall.of {P:Program}{C:Cfg}{f:FuncId}{fn:Func}{c:Code}{args:ZA}{F:List Blk}{v:V}{Hc:Hp}(hc:zk P f)(hf:P.funcs[f]? =some fn)(hb:fn.body=some c)(hnt:fn.ntmps=C.nt) (hle:args.length≤C.nt) (hnx:C.nx=F.length) (hW:∀b∈C.Wm,b<F.length) (hn:F.length≤Hc.next) (hdl:C.dl=[]) (h:AX C P c ⟨zbY 0 args,⟨numB 0 F,F.length⟩⟩ (fun o s=>(o=.norm∨o=.ret)∧∃s',Sub C s s'∧s'.h=Hc∧resP P fn s'∧resV P fn s'=v)):NCall P f args F C.Wm v Hc:=by
 refine⟨hc,hW,hn,fun g base w vs hgl hinv hvs hpw=>calls_of_wp hf hb ?_⟩;have he:Entry C base (fun _=>True) g ⟨numB 0 F,F.length⟩ w:=⟨hinv,hnx.symm,fun _ _=>trivial⟩;have hpost:Post g g base ⟨numB 0 F,F.length⟩ ⟨numB 0 F,F.length⟩ (fun _=>True) C.Wm w w:=(Post.refl hinv rfl rfl ⟨rfl,Yc _⟩ rfl).weaken (fun _ h=>by cases h);have hr:Rel C base (fun _=>True) g ⟨numB 0 F,F.length⟩ w g ⟨zbY 0 args,⟨numB 0 F,F.length⟩⟩ { tmps:=vs++Array.replicate (fn.ntmps-vs.size) undef,defers:=[] } w:=by
  refine⟨⟨hgl,by simp;omega,fun t v e=>?_⟩,hdl.symm,hpost⟩;obtain⟨_,h1⟩:=zcx 0 args t v e;have hlt:=(Yt.1 h1).1;obtain⟨u,hu,ru⟩:=hpw _ _ h1;have hu':vs[t]? =some u:=hu;have:(vs++Array.replicate (fn.ntmps-vs.size) undef).getD t undef=u:=by rw[Y2,YaV (by simp at hlt;omega),hu'];rfl
  rw[this];exact ru
 refine wp_mono (h base _ g _ w g _ w he hr) fun e a w' ⟨o,s,g1,h1,h2,h3⟩=>?_;obtain⟨ho,s',hsub,rfl,hrp,rfl⟩:=h1;obtain⟨g2,h4⟩:=h3.sub he hsub;obtain⟨vc,hrun,hv⟩:=zeF (P:=P) (w:=w') h4.post.inv (fun b=>.inl trivial) hrp h4.env;have fin:a.defers=[]∧∃v,(results fn a.tmps).run P w'=.ok v w'∧∃g' vc,Ending.returned v=.returned vc∧VRel g' (resV P fn s') vc∧Post g g' base ⟨numB 0 F,F.length⟩ s'.h (fun _=>True) C.Wm w w':=
  ⟨h4.defers.trans hdl,vc,hrun,g2,vc,rfl,hv,h4.post⟩
 rcases ho with rfl|rfl<;>cases e<;>first|exact h2.elim|exact fin
def zu(is:ZN)(n:Nat)(b:Nat):Nat:=if b<n then is.idxOf b else b-n+is.length
def HCall.of {P:Program}{f:FuncId}{args:ZA}{F:List Blk}{W:ZN}{v:V}{Hc:Hp}(hN:NCall P f args F W v Hc)(is:ZN)(args':ZA)(v':V)(H H':Hp)(hlen:is.length=F.length)(hnd:is.Nodup) (ha:LRel (Rn (fun i=>is.getD i 0) (· <F.length)) args args') (hF:∀(i:Nat)(x:Blk),F[i]? =some x→∃b y,is[i]? =some b∧H.get b=some y∧RnB (fun i=>is.getD i 0) (· <F.length) x y) (hv:Rn (zu is H.next) (fun b=>b∈is∨(H.next≤b∧b<H'.next)) v' v) (hn:H'.next+F.length=H.next+Hc.next) (hH:∀b x',H'.get b=some x'→(b<H.next∧b∉is∧H.get b=some x')∨((b∈is∨(H.next≤b∧b<H'.next))∧∃x,Hc.get (zu is H.next b)=some x∧RnB (zu is H.next) (fun b=>b∈is∨(H.next≤b∧b<H'.next)) x' x)) (hfr:∀b,b<H.next→b∉W.map (fun i=>is.getD i 0)→H'.get b=H.get b):HCall P f args' H ⟨True,v',H',is,W.map (fun i=>is.getD i 0)⟩:=by
 have hle:H.next≤H'.next:=by have:=hN.le;omega
 have isH:∀b∈is,∃y,H.get b=some y:=by intro b hb;obtain⟨i,hi,rfl⟩:=Yaw.1 hb;obtain⟨b',y,e,hy,_⟩:=hF i F[i] (by rw[Yb]);rw[Yb hi]at e;cases e;exact⟨y,hy⟩
 have wIn:∀b∈W.map (fun i=>is.getD i 0),b∈is:=by intro b hb;obtain⟨i,hi,rfl⟩:=Yab.1 hb;have:=hN.sub i hi;rw[Ya,Yb Zo];exact Y6 _
 refine⟨fun _=>⟨hle,fun b hb hw=>hfr b hb hw,fun b hb=>isH b (wIn b hb),fun hk b x e=>?_⟩,fun _ g base D w vs hgl hI hvs hpw hD=>?_⟩
 ·rcases hH b x e with⟨h1,_⟩|⟨h1|h1,_⟩
  ·show b<H'.next;omega
  ·obtain⟨y,hy⟩:=isH b h1;have:=hk b y hy;show b<H'.next;omega
  exact h1.2
 have isD:∀b∈is,D b:=fun b hb=>hD b (YG _ hb);have isLt:∀b∈is,b<H.next:=fun b hb=>by obtain⟨y,hy⟩:=isH b hb;exact hI.keys b y hy
 let gc:G:=⟨fun i=>if i<F.length then g.mu (is.getD i 0)else none,g.phi⟩
 have hgetD:∀i,i<F.length→is.getD i 0∈is:=fun i hi=>by rw[Ya,Yb Zo];exact Y6 _
 have hmc:∀i,i<F.length→gc.mu i=g.mu (is.getD i 0):=fun i hi=>Yi hi;have hmc':∀i T,gc.mu i=some T→i<F.length∧g.mu (is.getD i 0)=some T:=fun i T e=>by
  simp only[gc]at e;split at e
  ·rename_i h;exact⟨h,e⟩
  cases e
 have hpc:∀c a,g.phi c=some a→gc.phi c=some a:=fun _ _ e=>e;have ndi:∀i j,i<F.length→j<F.length→is.getD i 0=is.getD j 0→i=j:=by intro i j hi hj e;rw[Ya,Ya,Yb Zo,Yb Zo]at e;exact(List.getElem_inj hnd).1 e
 have getF:∀i x,(⟨numB 0 F,F.length⟩:Hp).get i=some x→F[i]? =some x:=fun i x e=>by have:(numB 0 F).lookup i=some x:=e;rw[zdH]at this;simpa using this
 have hIc:Inv gc base ⟨numB 0 F,F.length⟩ (fun _=>True) w:=by
  refine⟨hI.frz,fun i T e=>?_,fun i x e=>?_,fun i x _ e=>?_,fun i j x y T T' _ _ e e' m m' ec=>?_,hI.base⟩
  ·obtain⟨h1,h2⟩:=hmc' i T e;exact⟨h1,(hI.dom _ T h2).2⟩
  ·exact(Yt.1 (getF i x e)).1
  ·have hx:=getF i x e;have hi:=(Yt.1 hx).1;obtain⟨b,y,hb,hy,hr⟩:=hF i x hx;have hbi:is.getD i 0=b:=by rw[Ya,hb];rfl
   obtain⟨T,o,e1,e2,e3,e4⟩:=hI.cont b y (isD b (Y0 hb)) hy;exact⟨T,o,by rw[hmc i hi,hbi];exact e1,e2,e3,e4.rn hpc (fun j hj=>hmc j hj) hr⟩
  have hi:=(Yt.1 (getF i x e)).1;have hj:=(Yt.1 (getF j y e')).1;have h1:=(hmc' i T m).2;have h2:=(hmc' j T' m').2;obtain⟨y1,hy1⟩:=isH _ (hgetD i hi);obtain⟨y2,hy2⟩:=isH _ (hgetD j hj);exact ndi i j hi hj (hI.inj _ _ y1 y2 T T' (isD _ (hgetD i hi)) (isD _ (hgetD j hj)) hy1 hy2 h1 h2 ec)
 have hpwc:PW gc args (fun i=>vs[i]?):=by intro i x hx;have hlt:=(Yt.1 hx).1;have hll:=ha.1;obtain⟨u,hu,ru⟩:=hpw i _ (Yb Zo);exact⟨u,hu,ru.rn hpc (fun j hj=>hmc j hj) (ha.2 i x _ hx (Yb Zo))⟩
 refine .inl ⟨hN.call vs w,(hN.run gc base w vs (hgl.mono (fun _ _ e=>e)) hIc (by rw[hvs];exact ha.1.symm) hpwc).mono fun e w' hq=>?_⟩;obtain⟨g1,vc,rfl,hv1,p⟩:=hq;let g':G:=⟨fun b=>if b<H.next then g.mu b else if b<H'.next then g1.mu (b-H.next+is.length)else none,g1.phi⟩
 have hidx:∀b,b∈is→is.idxOf b<F.length∧is.getD (is.idxOf b) 0=b:=by intro b hb;have h1:is.idxOf b<is.length:=List.idxOf_lt_length_of_mem hb;refine⟨Zo,?_⟩;rw[Ya,Yb h1];simp
 have hm':∀b,(b∈is∨(H.next≤b∧b<H'.next))→(b∈is→∃y,H.get b=some y)→g'.mu b=g1.mu (zu is H.next b):=by
  intro b hb _;rcases hb with hb|hb
  ·have hlt:=isLt b hb;obtain⟨h1,h2⟩:=hidx b hb;show (if b<H.next then g.mu b else _)=_;rw[Yi hlt,zu,Yi hlt];obtain⟨y,hy⟩:=isH b hb;obtain⟨T,o,e1,_⟩:=hI.cont b y (isD b hb) hy;have:gc.mu (is.idxOf b)=some T:=by rw[hmc _ h1,h2];exact e1
   rw[e1,p.le.1 _ _ this]
  show (if b<H.next then g.mu b else if b<H'.next then g1.mu (b-H.next+is.length)else none)=_;rw[Yh Zo,Yi hb.2,zu,Yh Zo]
 have hm:∀b,(b∈is∨(H.next≤b∧b<H'.next))→g'.mu b=g1.mu (zu is H.next b):=fun b hb=>hm' b hb (fun h=>isH b h);have hp1:∀c a,g1.phi c=some a→g'.phi c=some a:=fun _ _ e=>e;have elder:∀b,b<H.next→g'.mu b=g.mu b:=fun b hb=>Yi hb;have phiN:∀c,c<w.heap.size→g.phi c=none→g1.phi c=none:=fun c hc hn=>by
  cases e:g1.phi c with
  |none=>rfl
  |some a=>
   rcases p.newphi c a e with e'|h
   ·have e'':g.phi c=some a:=e';rw[hn]at e'';cases e''
   omega
 have hle':g.le g':=⟨fun b T e=>by rw[elder b (hI.dom b T e).1];exact e,fun c a e=>p.le.2 c a e⟩;have wT:∀i∈W,∀T,gc.mu i=some T→g.mu (is.getD i 0)=some T∧is.getD i 0∈is:=fun i hi T e=>⟨(hmc' i T e).2,hgetD i (hN.sub i hi)⟩;have stand:∀b x T,D b→b∉is→H.get b=some x→g.mu b=some T→w'.heap[T.c]? =w.heap[T.c]? :=by intro b x T hDb hb hx hT;refine p.frame T.c (hI.dom b T hT).2.2 fun i hi T' e ec=>?_;obtain⟨e',hin⟩:=wT i hi T' e;obtain⟨y,hy⟩:=isH _ hin;have:=hI.inj _ b y x T' T (isD _ hin) hDb hy hx e' hT ec;exact hb (this▸hin)
 have apart:∀b x T i T',D b→b∉is→H.get b=some x→g.mu b=some T→g1.mu i=some T'→T.c≠T'.c:=by
  intro b x T i T' hDb hb hx hT hi' ec;have hlt:=(hI.dom b T hT).2.2;rcases p.newmu i T' hi' with e0|⟨_,h1|⟨b0,hb0,T0,e0,ec0⟩⟩
  ·obtain⟨h1,h2⟩:=hmc' i T' e0;have hin:=hgetD i h1;obtain⟨y,hy⟩:=isH _ hin;exact hb ((hI.inj b _ x y T T' hDb (isD _ hin) hx hy hT h2 ec)▸hin)
  ·omega
  obtain⟨e',hin⟩:=wT b0 hb0 T0 e0;obtain⟨y,hy⟩:=isH _ hin;exact hb ((hI.inj b _ x y T T0 hDb (isD _ hin) hx hy hT e' (ec.trans ec0.symm))▸hin)
 refine⟨g',vc,rfl,hv1.rn hp1 hm hv,hle',?_,?_,p.newphi,?_,p.size,p.os,p.tape,p.output,hfr,hle⟩
 ·refine⟨p.inv.frz,fun b T e=>?_,fun b x e=>?_,fun b x hd e=>?_,fun b b' x x' T T' hd hd' e e' m m' ec=>?_,Ys hI.base p.size⟩
  ·simp only[g']at e;split at e
   ·have:=hI.dom b T e;exact⟨by show b<H'.next;omega,this.2.1,by have:=p.size;omega⟩
   split at e
   ·rename_i h;exact⟨h,(p.inv.dom _ T e).2⟩
   cases e
  ·rcases hH b x e with⟨h1,_⟩|⟨h1|h1,_⟩
   ·show b<H'.next;omega
   ·have:=isLt b h1;show b<H'.next;omega
   exact h1.2
  ·rcases hH b x e with⟨h1,h2,h3⟩|⟨h1,y,hy,hr⟩
   ·have hDb:D b:=hd.resolve_right Zo;obtain⟨T,o,e1,e2,e3,e4⟩:=hI.cont b x hDb h3;exact⟨T,o,by rw[elder b h1];exact e1,phiN _ (hI.dom b T e1).2.2 e2,by rw[stand b x T hDb h2 h3 e1];exact e3,e4.mono hle'⟩
   obtain⟨T,o,e1,e2,e3,e4⟩:=p.inv.cont _ y (.inl trivial) hy;exact⟨T,o,by rw[hm b h1];exact e1,e2,e3,e4.rn hp1 hm hr⟩
  rcases hH b x e with⟨h1,h2,h3⟩|⟨h1,y,hy,hr⟩<;>rcases hH b' x' e' with⟨k1,k2,k3⟩|⟨k1,z,hz,kr⟩
  ·rw[elder b h1]at m;rw[elder b' k1]at m';exact hI.inj b b' x x' T T' (hd.resolve_right Zo) (hd'.resolve_right Zo) h3 k3 m m' ec
  ·rw[elder b h1]at m;rw[hm b' k1]at m';exact absurd ec (apart b x T _ T' (hd.resolve_right Zo) h2 h3 m m')
  ·rw[hm b h1]at m;rw[elder b' k1]at m';exact absurd ec.symm (apart b' x' T' _ T (hd'.resolve_right Zo) k2 k3 m' m)
  rw[hm b h1]at m;rw[hm b' k1]at m';have hi:=p.inv.inj _ _ y z T T' (.inl trivial) (.inl trivial) hy hz m m' ec;unfold zu at hi;split at hi<;>split at hi
  ·rename_i q1 q2;have hb:=h1.resolve_right Zo;have hb':=k1.resolve_right Zo;rw[←(hidx b hb).2,←(hidx b' hb').2,hi]
  ·rename_i q1 q2;have:=(hidx b (h1.resolve_right Zo)).1;omega
  ·rename_i q1 q2;have:=(hidx b' (k1.resolve_right Zo)).1;omega
  omega
 ·intro b T e;rcases YaX b H.next with hlt|hge
  ·rw[elder b hlt]at e;exact .inl e
  refine .inr ⟨hge,?_⟩;simp only[g']at e;rw[Yh Zo]at e;split at e
  ·rcases p.newmu _ T e with e0|⟨_,h1|⟨b0,hb0,T0,e0,ec0⟩⟩
   ·have:=(hmc' _ T e0).1;omega
   ·exact .inl h1
   exact .inr ⟨is.getD b0 0,Yab.2 ⟨b0,hb0,rfl⟩,T0,(wT b0 hb0 T0 e0).1,ec0⟩
  cases e
 intro c hc hw;refine p.frame c hc fun i hi T e=>hw _ (Yab.2 ⟨i,hi,rfl⟩) T (wT i hi T e).1
end Go.Ab

namespace Go.Ab
inductive FrzF(H:Hp)(F:Nat→Prop):V→V→Prop
 |pure {v} (h:Pure v):FrzF H F v v
 |nil0:FrzF H F .nilS (.fs [] 0)
 |sl {b off len sz kc cs cs'} (hF:F b) (hg:H.get b=some (.cells cs)) (hl:off+len*sz≤cs.length) (hll:cs'.length=len*sz)
  (h:∀(i:Nat)(x y:V),((cs.drop off).take (len*sz))[i]? =some x→cs'[i]? =some y→FrzF H F x y):FrzF H F (.sl b off len sz kc) (.fs cs' len)
 |ptr {b off cs cs'} (hF:F b) (hg:H.get b=some (.cells cs)) (hl:cs'.length=(cs.drop off).length)
  (h:∀(i:Nat)(x y:V),(cs.drop off)[i]? =some x→cs'[i]? =some y→FrzF H F x y):FrzF H F (.ptr b off) (.fp cs')
 |fn {f cs cs'} (hl:cs'.length=cs.length) (h:∀(i:Nat)(x y:V),cs[i]? =some x→cs'[i]? =some y→FrzF H F x y):FrzF H F (.fn f cs) (.fn f cs')
 |agg {cs cs'} (hl:cs'.length=cs.length) (h:∀(i:Nat)(x y:V),cs[i]? =some x→cs'[i]? =some y→FrzF H F x y):FrzF H F (.agg cs) (.agg cs')
def FrzF.rel {g g':G}{base:Nat}{H:Hp}{D:Nat→Prop}{F:Nat→Prop}{w:World}(hi:Inv g base H D w)(hD:∀b,F b→D b)(hp:∀c a,g.phi c=some a→g'.phi c=some a) (ha:∀b T arr t,F b→g.mu b=some T→w.heap[T.c]? =some (.cells arr t (0,0))→g'.phi T.c=some arr) {v v':V} (h:FrzF H F v v'):∀ {vc:Value},VRel g v vc→VRel g' v' vc:=by
 have list:∀ {l l':ZA} {get:Nat→Option Value},l'.length=l.length→(∀(i:Nat)(x y:V),l[i]? =some x→l'[i]? =some y→∀ {vc:Value},VRel g x vc→VRel g' y vc)→PW g l get→PW g' l' get:=by intro l l' get hl ih p i y hy;have hlt:=(Yt.1 hy).1;obtain⟨u,hu,ru⟩:=p i _ (Yb Zo);exact⟨u,hu,ih i _ y (Yb Zo) hy ru⟩
 induction h with
 |pure h=>intro vc r;exact r.pure hp h
 |nil0=>intro vc r;cases r;exact .fs0 fun _=>rfl
 |@sl b off len sz kc cs cs' hF hg hl hll _ ih=>
  intro vc r;obtain⟨T,o,cap,hm,hlc,ho,hk,rfl⟩:=r.inv_sl;obtain⟨T1,ob,m1,p1,h1,r1⟩:=hi.cont b _ (hD b hF) hg;obtain rfl:=ZT hm m1;cases r1 with
  |cells hs hbd hpw=>
   rename_i arr t;have hphi:=ha _ _ _ _ hF hm h1;by_cases h0:len*sz=0
   ·have:cs'=[]:=YB Zo;subst this;by_cases hl0:len=0
    ·subst hl0;exact .fs0 Zs
    exact Xl hphi hlc PW.nil
   have hc:cap≠0:=by rintro rfl;have:len=0:=Zo;subst this;simp at h0
   obtain⟨rfl,_⟩:=ho hc;refine Xl hphi hlc (list (by simp;omega) ih (((hpw.drop off).take (len*sz)).congr fun i _=>?_));show _=arr[T1.sh+(off+i)]?;rw[YU]
 |@ptr b off cs cs' hF hg hl _ ih=>
  intro vc r;obtain⟨T,hm,rfl⟩:=r.inv_ptr;obtain⟨T1,ob,m1,p1,h1,r1⟩:=hi.cont b _ (hD b hF) hg;obtain rfl:=ZT hm m1;cases r1 with
  |cells hs hbd hpw=>rename_i arr t;have hphi:=ha _ _ _ _ hF hm h1;refine VRel.mk_fp hphi (list hl ih ((hpw.drop off).congr fun i _=>?_));show _=arr[T1.sh+(off+i)]?;rw[YU]
 |fn hl _ ih=>intro vc r;obtain⟨arr,rfl,hs,p⟩:=r.inv_fn;exact Xo Zo (list hl ih p)
 |agg hl _ ih=>intro vc r;obtain⟨arr,rfl,hs,p⟩:=r.inv_agg;exact Xj Zo (list hl ih p)
structure Fz(nx:Nat)(F:Nat→Prop)(s s':St):Prop where
 env:∀t v',s'.env.lookup t=some v'→v'=.any∨∃v,s.env.lookup t=some v∧(Rn id (fun b=>¬F b∧b<s'.h.next) v' v∨FrzF s.h F v v')
 heap:∀b x',s'.h.get b=some x'→b<s'.h.next∧¬F b∧∃x,s.h.get b=some x∧RnB id (fun b=>¬F b∧b<s'.h.next) x' x
 live:∀b,F b→nx≤b∧∃x,s.h.get b=some x
 elder:∀b,b<nx→s'.h.get b=s.h.get b
 next:nx≤s'.h.next
def FzB(H:Hp)(F:Nat→Prop)(n:Nat)(x' x:Blk):Prop:=
 RnB id (fun b=>¬F b∧b<n) x' x∨∃cs cs',x=.cells cs∧x'=.cells cs'∧cs'.length=cs.length∧∀(i:Nat)(u v:V),cs[i]? =some u→cs'[i]? =some v→Rn id (fun b=>¬F b∧b<n) v u∨FrzF H F u v
structure Fz2(nx:Nat)(F:Nat→Prop)(s s':St):Prop where
 env:∀t v',s'.env.lookup t=some v'→v'=.any∨∃v,s.env.lookup t=some v∧(Rn id (fun b=>¬F b∧b<s'.h.next) v' v∨FrzF s.h F v v')
 heap:∀b x',s'.h.get b=some x'→b<s'.h.next∧¬F b∧∃x,s.h.get b=some x∧FzB s.h F s'.h.next x' x
 live:∀b,F b→nx≤b∧∃x,s.h.get b=some x
 elder:∀b,b<nx→s'.h.get b=s.h.get b
 next:nx≤s'.h.next
open Classical in
def Rel.freeze3 {C:Cfg}{base:Nat}{D:Nat→Prop}{g0:G}{H0:Hp}{w0:World}{g:G}{F:Nat→Prop}{s s':St}{a:Act}{w:World}(he:Entry C base D g0 H0 w0)(r:Rel C base D g0 H0 w0 g s a w)(hW:∀b0∈C.Wm,b0<C.nx∧∃x,s.h.get b0=some x)(h:Fz2 C.nx F s s'):∃g',Rel C base D g0 H0 w0 g' s' a w:=by
 let cellsAt:Nat→Option (Array Value):=fun c=>match w.heap[c]? with|some (.cells arr _ _)=>some arr|_=>none
 let g':G:=⟨fun b=>if ¬F b∧b<s'.h.next then g.mu b else none,fun c=>(g.phi c).or (if ∃b T,F b∧g.mu b=some T∧T.c=c then cellsAt c else none)⟩
 have hp:∀c a,g.phi c=some a→g'.phi c=some a:=fun c a e=>by show (g.phi c).or _=_;rw[e];rfl
 have hm:∀b,(¬F b∧b<s'.h.next)→g'.mu b=g.mu (id b):=fun b hb=>Yi hb;have hm':∀b T,g'.mu b=some T→(¬F b∧b<s'.h.next)∧g.mu b=some T:=by
  intro b T e;simp only[g']at e;split at e
  ·rename_i hb;exact⟨hb,e⟩
  cases e
 have pnx:=he.nx;have ha:∀b T arr t,F b→g.mu b=some T→w.heap[T.c]? =some (.cells arr t (0,0))→g'.phi T.c=some arr:=by intro b T arr t hF hmu hh;show (g.phi T.c).or _=_;obtain⟨x,hx⟩:=(h.live b hF).2;obtain⟨T1,o,e1,e2,_⟩:=r.post.inv.cont b x (he.inD b) hx;obtain rfl:=ZT hmu e1;rw[e2,Yi ⟨b,T1,hF,hmu,rfl⟩];show cellsAt T1.c=some arr;simp only[cellsAt,hh]
 have hphi:∀c a,g'.phi c=some a→g.phi c=some a∨((∃b T,F b∧g.mu b=some T∧T.c=c)∧cellsAt c=some a):=by
  intro c a e;have e':(g.phi c).or (if ∃b T,F b∧g.mu b=some T∧T.c=c then cellsAt c else none)=some a:=e;cases e1:g.phi c with
  |some a'=>rw[e1]at e';left;exact e'
  |none=>
   rw[e1]at e';simp only[Option.none_or]at e';split at e'
   ·rename_i hc;exact .inr ⟨hc,e'⟩
   cases e'
 refine⟨g',⟨⟨r.env.glob.mono hp,r.env.size,fun t v' e=>?_⟩,r.defers,?_⟩⟩
 ·rcases h.env t v' e with rfl|⟨v,ev,rn|fz⟩
  ·exact .any _
  ·exact(r.env.rel t v ev).rn hp hm rn
  exact fz.rel r.post.inv (fun b _=>he.inD b) hp ha (r.env.rel t v ev)
 have own:∀b T,(∃x,s.h.get b=some x)→g.mu b=some T→C.nx≤b→w0.heap.size≤T.c:=by
  intro b T ⟨x,hx⟩ e hb;rcases r.post.newmu b T e with e0|⟨_,hc|⟨b0,h0,T0,e0,ec⟩⟩
  ·have:=(he.inv.dom b T e0).1;omega
  ·exact hc
  obtain⟨h1,y,hy⟩:=hW b0 h0;have:=r.post.inv.inj b b0 x y T T0 (he.inD _) (he.inD _) hx hy e (r.post.le.1 _ _ e0) ec.symm;omega
 refine⟨?_,?_,?_,?_,r.post.frame,r.post.size,r.post.os,r.post.tape,r.post.output,?_,?_⟩
 ·refine⟨fun b T e=>?_,fun c a e=>hp c a (r.post.le.2 c a e)⟩;have hb:=(he.inv.dom b T e).1;have hnF:¬F b:=fun hF=>by have:=(h.live b hF).1;omega
  have:g'.mu b=g.mu b:=hm b ⟨hnF,by have:=h.next;omega⟩;rw[this];exact r.post.le.1 b T e
 ·refine⟨fun c a e=>?_,fun b T e=>?_,fun b x e=>(h.heap b x e).1,fun b x _ e=>?_,fun b b' x x' T T' _ _ e e' m m' ec=>?_,r.post.inv.base⟩
  ·rcases hphi c a e with e|⟨_,e⟩
   ·exact r.post.inv.frz c a e
   simp only[cellsAt]at e;split at e
   ·rename_i arr t fr hh;cases e;exact⟨t,fr,hh⟩
   cases e
  ·obtain⟨h1,h2⟩:=hm' b T e;exact⟨h1.2,(r.post.inv.dom _ T h2).2⟩
  ·obtain⟨hb,hnF,y,hy,rn⟩:=h.heap b x e;obtain⟨T,o,e1,e2,e3,e4⟩:=r.post.inv.cont _ y (he.inD _) hy;refine⟨T,o,(hm b ⟨hnF,hb⟩).trans e1,?_,e3,?_⟩;rotate_left
   ·rcases rn with rn|⟨cs,cs',rfl,rfl,hl,hc⟩
    ·exact e4.rn hp hm rn
    cases e4 with
    |cells hs hbd hpw=>
     refine .cells hs Zo fun i v hv=>?_;have hlt:=(Yt.1 hv).1;obtain⟨u,hu,ru⟩:=hpw i _ (Yb Zo);refine⟨u,hu,?_⟩;rcases hc i _ v (Yb Zo) hv with k|k
     ·exact ru.rn hp hm k
     exact k.rel r.post.inv (fun b _=>he.inD b) hp ha ru
   cases e5:g'.phi T.c with
   |none=>rfl
   |some ar=>
    rcases hphi _ _ e5 with e6|⟨⟨b1,T1,hF1,hm1,hc1⟩,_⟩
    ·rw[e2]at e6;cases e6
    obtain⟨x1,hx1⟩:=(h.live b1 hF1).2;have:=r.post.inv.inj b1 b x1 y T1 T (he.inD _) (he.inD _) hx1 hy hm1 e1 hc1;subst this;exact absurd hF1 hnF
  obtain⟨hb,hnF,y,hy,_⟩:=h.heap b x e;obtain⟨hb',hnF',y',hy',_⟩:=h.heap b' x' e';exact r.post.inv.inj _ _ y y' T T' (he.inD _) (he.inD _) hy hy' (hm' b T m).2 (hm' b' T' m').2 ec
 ·intro b T e;exact r.post.newmu b T (hm' b T e).2
 ·intro c a e;rcases hphi c a e with e|⟨⟨b,T,hF,hmu,rfl⟩,_⟩
  ·exact r.post.newphi c a e
  exact .inr (own b T (h.live b hF).2 hmu (h.live b hF).1)
 ·intro b hb hn;rw[h.elder b Zo];exact r.post.aframe b hb hn
 have:=h.next;omega
def AX.freeze3 {C:Cfg}{P:Program}{K:Out→St→Prop}{F:Nat→Prop}{c:Code}{s s':St}(hW:∀b0∈C.Wm,b0<C.nx∧∃x,s.h.get b0=some x)(hs:Fz2 C.nx F s s')(h:AX C P c s' K):AX C P c s K:=fun base D g0 H0 w0 _ a w he r=>
 let ⟨g',r'⟩:=r.freeze3 he hW hs
 h base D g0 H0 w0 g' a w he r'
def Fz.two {nx:Nat}{F:Nat→Prop}{s s':St}(h:Fz nx F s s'):Fz2 nx F s s':=
 ⟨h.env,fun b x' e=>let ⟨h1,h2,x,h3,h4⟩:=h.heap b x' e;⟨h1,h2,x,h3,.inl h4⟩,h.live,h.elder,h.next⟩
def XG {C:Cfg}{P:Program}{K:Out→St→Prop}{F:Nat→Prop}{c:Code}{s s':St}(hW:C.Wm=[])(hs:Fz2 C.nx F s s')(h:AX C P c s' K):AX C P c s K:=
 AX.freeze3 (fun b hb=>by rw[hW]at hb;cases hb) hs h
def AX.freeze {C:Cfg}{P:Program}{K:Out→St→Prop}{F:Nat→Prop}{c:Code}{s s':St}(hW:C.Wm=[])(hs:Fz C.nx F s s')(h:AX C P c s' K):AX C P c s K:=
 XG hW hs.two h
end Go.Ab
