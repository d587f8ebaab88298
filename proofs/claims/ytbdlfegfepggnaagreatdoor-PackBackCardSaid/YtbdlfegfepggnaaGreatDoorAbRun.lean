/- Code over abstract states: what simp can compute; and that it is sound. -/
import Derived.Test.YtbdlfegfepggnaaGreatDoorAbOpOk7
import Derived.Orders
set_option linter.all false
set_option maxHeartbeats 16000000
set_option maxRecDepth 100000
noncomputable section
namespace Go.Ab
inductive PR where
 |ret (v:V)
 |panic (v:V)
abbrev ZV:=List V→Option PR
inductive Out where
 |norm
 |exit (id:Nat)
 |ret
 |panic (v:V)
structure St where
 env:Env
 h:Hp
structure Cfg where
 nt:Nat
 keep:Nat→Bool
 Γ:FuncId→ZA→Option PR
 Δ:FuncId→ZA→Hp→Option AR
 nx:Nat
 Wm:ZN
 fz:TypeId→Bool
 dl:List Deferred
def PR.v:PR→V
 | .ret v| .panic v=>v
def PR.ending(r:PR)(vc:Value):Ending:=
 match r with
 | .ret _=>.returned vc
 | .panic _=>.panicked [{ v:=vc,recovered:=false }]
def zk(P:Program)(f:FuncId):Prop:=∀(a:Array Value)(w:World),(callFunc f a).run P w=.ok (.enter f a) w
theorem ZF{P:Program}{f:FuncId}(h:∀(a:Array Value) (w:World),(callFunc f a).run P w=.ok (.enter f a) w:=by intro a w;kernel_rfl):zk P f:=h
def GoCall(P:Program)(f:FuncId)(vs:Array Value)(w:World)(R:Ending→World→Prop):Prop:=
 ((callFunc f vs).run P w=.ok (.enter f vs) w∧Calls P f vs w R)∨∃v w',(callFunc f vs).run P w=.ok (.value v) w'∧R (.returned v) w'
def GoCall.mono {P:Program}{f:FuncId}{vs:Array Value}{w:World}{R R':Ending→World→Prop}(h:GoCall P f vs w R)(hr:∀e w',R e w'→R' e w'):GoCall P f vs w R':=by
 rcases h with⟨h1,h2⟩|⟨v,w',h1,h2⟩
 ·exact .inl ⟨h1,h2.mono hr⟩
 exact .inr ⟨v,w',h1,hr _ _ h2⟩
def GoCall.wp {P:Program}{o:Oper}{a:Act}{next:Act→World→Prop}{Q:Exit→Act→World→Prop}{f:FuncId}{vs:Array Value}{w:World}{R:Ending→World→Prop}(h:GoCall P f vs w R) (he:(execOp a.eval o).run P w=(callFunc f vs).run P w)
 (hr:∀e w',R e w'→match e with| .returned v=>next (a.put o.dst v) w'| .panicked ch=>Q (.panic ch) a w'| .outgrown=>False):o.wp P a w next Q:=by
 unfold Oper.wp
 rw[he]
 rcases h with⟨h1,h2⟩|⟨v,w',h1,h2⟩
 ·rw[h1];refine h2.mono fun e w' q=>?_;have:=hr e w' q;cases e with
  |returned v=>exact this
  |panicked ch=>exact this
  |outgrown=>exact this.elim
 ·rw[h1];exact hr _ _ h2
def PCall(P:Program)(f:FuncId)(args:ZA)(r:PR):Prop:=
 ∀(g:G)(w:World)(vs:Array Value),GOK g→(∀c arr,g.phi c=some arr→∃t fr,w.heap[c]? =some (.cells arr t fr))→vs.size=args.length→PW g args (fun i=>vs[i]?)→
  GoCall P f vs w fun e w'=>∃phi' vc,(∀c a,phi' c=some a→w.heap.size≤c∧∃t fr,w'.heap[c]? =some (.cells a t fr))∧Bel w.heap.size w w'∧e=r.ending vc∧VRel (G.more ⟨fun _=>none,g.phi⟩ phi') r.v vc
def HCall(P:Program)(f:FuncId)(args:ZA)(H:Hp)(r:AR):Prop:=
 (r.pre→Stat H r.h r.W)∧(r.pre→∀(g:G)(base:Nat)(D:Nat→Prop)(w:World)(vs:Array Value),GOK g→Inv g base H D w→vs.size=args.length→PW g args (fun i=>vs[i]?)→(∀b∈r.R++r.W,D b)→
  GoCall P f vs w fun e w'=>∃g' vc,e=.returned vc∧VRel g' r.v vc∧Post g g' base H r.h D r.W w w')
def zfg(P:Program)(C:Cfg):Prop:=(∀f args r,C.Γ f args=some r→PCall P f args r)∧∀f args H r,C.Δ f args H=some r→HCall P f args H r
def St.put(s:St)(dst:Option Tmp)(v:V):St:=
 match dst with
 |some d=>{ s with env:=(d,v)::s.env }
 |none=>s
def St.hp(s:St)(h:Hp):St:={ s with h }
def zb7(keep:Nat→Bool):Env→Env
 |[]=>[]
 |(t,v)::r=>if keep t then(t,v)::(zb7 keep r).filter (fun p=>p.1 != t)else zb7 keep r
def St.trim(s:St)(keep:Nat→Bool):St:={ s with env:=zb7 keep s.env }
def wok(C:Cfg)(W:ZN):Bool:=W.all fun b=>decide (C.nx≤b)||C.Wm.contains b
def gval(ops:Array Oper)(env:Env)(o:Oper):Option Bool:=
 match o.guard with
 |none=>some true
 |some (j,want)=>
  match (ops[j]?).bind (·.dst)with
  |some d=>match env.lookup d with
   |some (.bool b)=>some (b==want)
   |some (.opt c (.bool b))=>some (c&&(b==want))
   |some (.opt false _)=>some false
   |some (.tup [])=>some false
   |_=>none
  |none=>none
def zey:V→Bool
 | .bool _| .int .. | .str _| .nilS| .nilP| .nilM| .nilF| .nilI=>true
 |_=>false
def zaF:V→Bool
 | .tup vs| .agg vs=>vs.all zey
 | .ifc _ v=>zey v
 |v=>zey v
def znR(x:Option Blk)(b off len sz:Nat)(kc:Option Nat):V:=
 match x with
 |some (.cells cs)=>if off+len*sz≤cs.length then .fs ((cs.drop off).take (len*sz)) len else .sl b off len sz kc
 |some (.ty _ cs)=>if off+len*sz≤cs.length then .fs ((cs.drop off).take (len*sz)) len else .sl b off len sz kc
 |_=>.sl b off len sz kc
def zrW(x:Option Blk)(b off:Nat):V:=
 match x with
 |some (.cells cs)=>.fp (cs.drop off)
 |_=>.ptr b off
def zeo(H:Hp):V→V
 | .sl b off len sz kc=>znR (H.get b) b off len sz kc
 | .ptr b off=>zrW (H.get b) b off
 | .nilS=>.fs [] 0
 |v=>v
def lend(H:Hp):V→V
 | .fn f caps=>.fn f (caps.map (zeo H))
 | .agg cs=>.agg (cs.map (zeo H))
 |v=>zeo H v
def zcI:V→ZN
 | .sl b _ _ _ _=>[b]
 | .ptr b _=>[b]
 |_=>[]
def zdB:V→ZN
 | .fn _ caps=>caps.flatMap zcI
 | .agg cs=>cs.flatMap zcI
 |v=>zcI v
def zck:ZA→ZN
 |[]=>[]
 |v::r=>zdB v++zck r
structure Foot where
 R:ZN
 W:ZN
 lo:Nat
 hi:Nat
def V.val:V→V
 | .opt _ v=>v
 |v=>v
def V.cond:V→Prop
 | .opt b _=>b=true
 |_=>True
def needs:ZA→Prop
 |[]=>True
 |v::r=>v.cond∧needs r
def rho(env:Env)(x:Operand):V:=(ev env x).val
inductive SR where
 |ok (st:Bool) (pre:Prop) (v:V) (h:Hp) (f:Foot)
 |pan (pre:Prop) (v:V) (R:ZN)
 |bad
def zfo:Op→Bool
 | .move _| .assign _| .load .. | .nilCheck _| .binOp .. | .unOp .. | .makeInterface .. | .typeAssert .. | .makeFunc .. | .slice .. | .fieldAddr .. | .field .. | .indexAddr .. | .index .. | .extract .. | .build .. =>true
 | .call { callee:=.builtin .len,.. }| .call { callee:=.builtin .max,.. }| .call { callee:=.builtin .min,.. }=>true
 |_=>false
def zd9(c a b:V)(H:Hp):SR:=
 match c.val with
 | .bool t=>
  match a.val,b.val with
  | .bool x,.bool y=>.ok true (c.cond∧(t=true→a.cond)∧(t=false→b.cond)) (.bool (cond t x y)) H ⟨[],[],0,0⟩
  |x,y=>.ok true (c.cond∧(t=true→a.cond)∧(t=false→b.cond)) (if t=true then x else y) H ⟨[],[],0,0⟩
 |_=>.bad
def nz:V→V
 | .nilS=>.fs [] 0
 |v=>v
def zhB(C:Cfg)(fid:FuncId)(ags:ZA)(nd:Prop)(H:Hp):SR:=
 if (zck ags).isEmpty=true then
  match C.Γ fid (ags.map nz)with
  |some (.ret v)=>.ok true nd v H ⟨[],[],0,0⟩
  |some (.panic v)=>.pan nd v []
  |none=>
   match C.Δ fid ags H with
   |some r=>.ok false (nd∧r.pre) r.v r.h ⟨r.R,r.W,H.next,r.h.next⟩
   |none=>.bad
 else
  match C.Δ fid ags H with
  |some r=>.ok false (nd∧r.pre) r.v r.h ⟨r.R,r.W,H.next,r.h.next⟩
  |none=>
   match C.Γ fid (ags.map (lend H))with
   |some (.ret v)=>.ok true (nd∧zaF v=true) v H ⟨zck ags,[],0,0⟩
   |some (.panic v)=>.pan (nd∧zaF v=true) v (zck ags)
   |none=>.bad
def step1(C:Cfg)(P:Program)(env:Env)(op:Op)(H:Hp):SR:=
 match op with
 | .pick c a b=>zd9 (ev env c) (ev env a) (ev env b) H
 | .call { callee:=.value f,args,.. }=>
  match (ev env f).val with
  | .fn fid caps=>zhB C fid (args.toList.map (rho env)++caps) ((ev env f).cond∧needs (args.toList.map (ev env))) H
  | .bnd fid fs=>zhB C fid (fs++args.toList.map (rho env)) ((ev env f).cond∧needs (args.toList.map (ev env))) H
  |_=>.bad
 | .panic x=>
  match (ev env x).val with
  | .ifc t v=>.pan (ev env x).cond (.ifc t v) []
  |_=>.bad
 | .box t x=>
  if C.fz t=true then .ok true ((ev env x).cond∧zt (ev env x).val=true) (.fp (ev env x).val.cellsV) H ⟨[],[],H.next,H.next⟩
  else .ok false (needs [ev env x]∧(aop P (rho env) (.box t x) H).pre) (aop P (rho env) (.box t x) H).v (aop P (rho env) (.box t x) H).h
   ⟨(aop P (rho env) (.box t x) H).R,(aop P (rho env) (.box t x) H).W,H.next,(aop P (rho env) (.box t x) H).h.next⟩
 |op=>.ok (zfo op) (needs (op.operands.toList.map (ev env))∧(aop P (rho env) op H).pre) (aop P (rho env) op H).v (aop P (rho env) op H).h
  ⟨(aop P (rho env) op H).R,(aop P (rho env) op H).W,H.next,(aop P (rho env) op H).h.next⟩
def fol(C:Cfg)(r:SR)(k:V→Hp→Foot→Prop)(kp:V→Prop):Prop:=
 match r with
 | .ok _ pre v h f=>pre∧wok C f.W=true∧k v h f
 | .pan pre v _=>pre∧kp v
 | .bad=>False
def folG(C:Cfg)(gb:Bool)(r:SR)(H:Hp)(k:V→Hp→Foot→Prop)(kp:V→Prop):Prop:=
 match r with
 | .ok true pre v _ f=>(gb=true→pre)∧k (.opt gb v) H ⟨f.R,[],0,0⟩
 | .ok false pre v h f=>if gb=true then pre∧wok C f.W=true∧k v h f else k undefV H ⟨[],[],0,0⟩
 | .pan pre v _=>if gb=true then pre∧kp v else k undefV H ⟨[],[],0,0⟩
 | .bad=>gb=false∧k undefV H ⟨[],[],0,0⟩
def ARun(C:Cfg)(P:Program)(ops:Array Oper):List Oper→St→(Out→St→Prop)→Prop
 |[],s,K=>K .norm s
 |o::os,s,K=>
  match o.guard with
  |none=>fol C (step1 C P s.env o.op s.h) (fun v h _=>ARun C P ops os ((s.put o.dst v).hp h) K) (fun v=>K (.panic v) s)
  |some _=>
   match gval ops s.env o with
   |some gb=>folG C gb (step1 C P s.env o.op s.h) s.h (fun v h _=>ARun C P ops os ((s.put o.dst v).hp h) K) (fun v=>K (.panic v) s)
   |none=>False
section
variable {P:Program}{g:G}{base:Nat}{H:Hp}{D:Nat→Prop}{w:World}
structure EnvRel(g:G)(n:Nat)(env:Env)(a:Act):Prop where
 glob:GOK g
 size:a.tmps.size=n
 rel:∀t v,env.lookup t=some v→VRel g v (a.tmps.getD t undef)
def EnvRel.mono {g g':G}(h:g.le g'){n:Nat}{env:Env}{a:Act}(r:EnvRel g n env a):EnvRel g' n env a:=⟨r.glob.mono h.2,r.size,fun t v e=>(r.rel t v e).mono h⟩
def EnvRel.ev {g:G}{n:Nat}{env:Env}{a:Act}(r:EnvRel g n env a)(x:Operand):VRel g (ev env x) (a.eval x):=by
 cases x with
 |tmp t=>
  show VRel g ((env.lookup t).getD .any) (a.tmps.getD t undef);cases e:env.lookup t with
  |none=>exact .any _
  |some v=>exact r.rel t v e
 |const v=>exact zdn g v
 |global k=>
  show VRel g (match GL k with|some cs=>.fp cs|none=>.any) _;cases e:GL k with
  |none=>exact .any _
  |some cs=>exact r.glob.rel e
 |func f=>exact Xn rfl PW.nil
def EnvRel.put {g:G}{n:Nat}{s:St}{a:Act}(r:EnvRel g n s.env a){dst:Option Tmp}(hd:∀d,dst=some d→d<n){v:V}{vc:Value}(hv:VRel g v vc):EnvRel g n (s.put dst v).env (a.put dst vc):=by
 cases dst with
 |none=>exact r
 |some d=>
  refine⟨r.glob,by simp[Act.put,r.size],fun t u e=>?_⟩;have e':((d,v)::s.env).lookup t=some u:=e;rw[YE]at e';show VRel g u ((a.tmps.setIfInBounds d vc).getD t undef);have hlt:d<a.tmps.size:=by rw[r.size];exact hd d rfl
  by_cases ht:t=d
  ·subst ht;simp only[YaU,Yx]at e';subst e';simp[hlt,hv]
  have hb:(t==d)=false:=by simp[ht]
  simp only[hb]at e';have:=r.rel t u e';simpa[YU,YaE (Ne.symm ht)]using this
def zem(keep:Nat→Bool):∀(env:Env)(t:Nat)(v:V),(zb7 keep env).lookup t=some v→env.lookup t=some v
 |[],t,v,h=>by simp[zb7]at h
 |(k,u)::r,t,v,h=>by
  unfold zb7 at h;rw[YE];split at h
  ·rw[YE]at h;by_cases ht:t=k
   ·subst ht;simpa using h
   have hb:(t==k)=false:=by simp[ht]
   simp only[hb]at h ⊢;rw[zda,Ye ht]at h;exact zem keep r t v h
  rename_i hk;have ih:=zem keep r t v h;by_cases ht:t=k
  ·exfalso;subst ht;have:∀(env:Env),(zb7 keep env).lookup t=none:=by
    intro env;induction env with
    |nil=>rfl
    |cons p env ih=>
     obtain⟨k',u'⟩:=p;unfold zb7;split
     ·rename_i hk';have:t≠k':=fun e=>by subst e;exact hk hk'
      have hb:(t==k')=false:=by simp[this]
      rw[YE];simp only[hb];rw[zda,Ye this];exact ih
     exact ih
   rw[this]at h;cases h
  have hb:(t==k)=false:=by simp[ht]
  simp only[hb];exact ih
def EnvRel.trim {g:G}{n:Nat}{env:Env}{a:Act}(r:EnvRel g n env a)(keep:Nat→Bool):EnvRel g n (zb7 keep env) a:=
 ⟨r.glob,r.size,fun t v e=>r.rel t v (zem keep env t v e)⟩
def OutRel(g:G):Out→Exit→Prop
 | .norm,.normal=>True
 | .exit i,.exit j=>i=j
 | .ret,.ret=>True
 | .panic v,.panic l=>∃vc,VRel g v vc∧l=[{ v:=vc,recovered:=false }]
 |_,_=>False
structure Rel(C:Cfg)(base:Nat)(D:Nat→Prop)(g0:G)(H0:Hp)(w0:World)(g:G)(s:St)(a:Act)(w:World):Prop where
 env:EnvRel g C.nt s.env a
 defers:a.defers=C.dl
 post:Post g0 g base H0 s.h D C.Wm w0 w
def Aft(C:Cfg)(base:Nat)(D:Nat→Prop)(g0:G)(H0:Hp)(w0:World)(K:Out→St→Prop)(e:Exit)(a:Act)(w:World):Prop:=
 ∃o s g,K o s∧OutRel g o e∧Rel C base D g0 H0 w0 g s a w
def wok_mem {C:Cfg}{W:ZN}(h:wok C W=true):∀b∈W.filter (· <C.nx),b∈C.Wm:=by
 intro b hb;obtain⟨h1,h2⟩:=YaH.1 hb;simp only[Yn]at h2;have:=Yl.1 h b h1;simp only[Yaj,Yn]at this;rcases this with h3|h3
 ·omega
 simpa using h3
def Post.weaken {g':G}{H':Hp}{W W':ZN}{w':World}(p:Post g g' base H H' D W w w')(hs:∀b∈W,b∈W'):Post g g' base H H' D W' w w':=
 ⟨p.le,p.inv,fun b T e=>(p.newmu b T e).imp id fun⟨h1,h2⟩=>⟨h1,h2.imp id fun⟨b0,hb,r⟩=>⟨b0,hs b0 hb,r⟩⟩,p.newphi,fun c hc hf=>p.frame c hc fun b hb=>hf b (hs b hb),p.size,p.os,p.tape,p.output,
  fun b hb hn=>p.aframe b hb fun e=>hn (hs b e),p.anext⟩
structure Entry(C:Cfg)(base:Nat)(D:Nat→Prop)(g0:G)(H0:Hp)(w0:World):Prop where
 inv:Inv g0 base H0 D w0
 nx:H0.next=C.nx
 all:∀b,b<C.nx→D b
def Rel.step {C:Cfg}{g0:G}{H0:Hp}{w0:World}{s:St}{a:Act}{g':G}{W:ZN}{w':World}{h':Hp}(he:Entry C base D g0 H0 w0)(r:Rel C base D g0 H0 w0 g s a w) (p:Post g g' base s.h h' (fun b=>D b∨H0.next≤b) W w w') (hw:wok C W=true):Post g0 g' base H0 h' D C.Wm w0 w':=by
 have:=(r.post.trans he.inv p);rw[he.nx]at this;refine this.weaken fun b hb=>?_;rcases Yam.1 hb with hb|hb
 ·exact hb
 exact wok_mem hw b hb
def Entry.inD {C:Cfg}{g0:G}{H0:Hp}{w0:World}(he:Entry C base D g0 H0 w0)(b:Nat):D b∨H0.next≤b:=by
 rcases YaJ b C.nx with h|h
 ·exact .inl (he.all b h)
 exact .inr (he.nx▸h)
def zi0 {l r:ZA}{a b:Array Value}(ha:a.size=l.length)(pa:PW g l (fun i=>a[i]?))(pb:PW g r (fun i=>b[i]?)):PW g (l++r) (fun i=>(a++b)[i]?):=by
 refine PW.append (pa.congr fun i hi=>?_) (pb.congr fun i hi=>?_)
 ·show (a++b)[i]? =_;rw[YaS Zo]
 show (a++b)[l.length+i]? =_;rw[Array.getElem?_append_right Zo];congr 1;omega
def more_le(g:G)(phi':Nat→Option (Array Value)):(G.more ⟨fun _=>none,g.phi⟩ phi').le (g.more phi'):=
 ⟨fun b T e=>(by cases e),fun c a e=>e⟩
def zkG {g g':G}{v:V}{vc:Value}(h:zey v=true)(r:VRel g v vc):VRel g' v vc:=by
 cases r<;>first
  |(cases h;done)
  |exact .bool _
  |exact .int _ _
  |exact .str (by assumption)
  |exact .nilS
  |exact .nilP
  |exact .nilM
  |exact .nilF
  |exact .nilI
def zfs {g g':G}{v:V}{vc:Value}(h:zaF v=true)(r:VRel g v vc):VRel g' v vc:=by
 have lst:∀ {l:ZA} {get:Nat→Option Value},l.all zey=true→PW g l get→PW g' l get:=fun ha p i x hx=>by obtain⟨u,hu,r⟩:=p i x hx;exact⟨u,hu,zkG (Yl.1 ha x (YV hx)) r⟩
 cases v<;>first
  |exact zkG h r
  |skip
 case tup l=>obtain⟨arr,rfl,hs,p⟩:=r.inv_tup;exact Xf hs (lst h p)
 case agg l=>obtain⟨arr,rfl,hs,p⟩:=r.inv_agg;exact Xj hs (lst h p)
 case ifc t v=>
  cases r with
  |ifc hv=>exact .ifc (zkG h hv)
def nz_rel {x:V}{xc:Value}(r:VRel g x xc):VRel g (nz x) xc:=by
 cases x<;>first
  |exact r
  |(cases r;exact .fs0 fun _=>rfl)
def zu6 {l:ZA}{get:Nat→Option Value}(p:PW g l get):PW g (l.map nz) get:=by
 intro i x hx;rw[YT]at hx;cases e:l[i]? with
 |none=>rw[e]at hx;cases hx
 |some y=>rw[e]at hx;cases hx;obtain⟨v,hv,r⟩:=p i y e;exact⟨v,hv,nz_rel r⟩
def G.all(g:G)(w:World):G:={ g with phi:=fun c=>match w.heap[c]? with|some (.cells arr _ _)=>some arr|_=>none }
def Xq(h:Inv g base H D w):g.le (g.all w):=
 ⟨fun _ _ e=>e,fun c a e=>by obtain⟨t,fr,e'⟩:=h.frz c a e;simp only[G.all,e']⟩
def zhh(h:Inv g base H D w){x:V}{xc:Value}(hD:∀b∈zcI x,D b)(r:VRel g x xc):VRel (g.all w) (zeo H x) xc:=by
 have r':=r.mono (Xq h);cases x<;>first
  |exact r'
  |(cases r';exact .fs0 fun _=>rfl)
  |skip
 case ptr b off=>
  show VRel _ (zrW (H.get b) b off) xc
  unfold zrW
  split
  ·rename_i cs hg;obtain⟨T,hm,rfl⟩:=r.inv_ptr;obtain⟨T1,ob,m1,p1,h1,r1⟩:=h.cont b _ (hD b (by simp[zcI])) hg;obtain rfl:=ZT hm m1;cases r1 with
   |cells hs hbd hpw=>
    rename_i arr t;have hphi:(g.all w).phi T1.c=some arr:=by simp only[G.all,h1]
    refine VRel.mk_fp hphi (((hpw.drop off).mono (Xq h)).congr fun i _=>?_);show _=arr[T1.sh+(off+i)]?;rw[YO]
  ·exact r'
 rename_i b off len sz kc;show VRel _ (znR (H.get b) b off len sz kc) xc;unfold znR;split
 ·rename_i cs hg;split
  ·rename_i hb;obtain⟨T,o,cap,hm,hl,ho,hk,rfl⟩:=r.inv_sl;obtain⟨T1,ob,m1,p1,h1,r1⟩:=h.cont b _ (hD b (by simp[zcI])) hg;obtain rfl:=ZT hm m1;cases r1 with
   |cells hs hbd hpw=>
    rename_i arr t;have hphi:(g.all w).phi T1.c=some arr:=by simp only[G.all,h1]
    by_cases h0:len*sz=0
    ·have:(cs.drop off).take (len*sz)=[]:=by rw[h0];simp
     rw[this];by_cases hl0:len=0
     ·subst hl0;exact .fs0 Zs
     exact Xk hphi hl PW.nil
    have hc:cap≠0:=by rintro rfl;have:len=0:=Zo;subst this;simp at h0
    obtain⟨rfl,_⟩:=ho hc;refine Xk hphi hl ((((hpw.drop off).take _).mono (Xq h)).congr fun i _=>?_);show _=arr[T1.sh+(off+i)]?;rw[YO]
  exact r'
 ·rename_i ty cs hg;split
  ·rename_i hb;obtain⟨T,o,cap,hm,hl,ho,hk,rfl⟩:=r.inv_sl;obtain⟨T1,ob,m1,p1,h1,r1⟩:=h.cont b _ (hD b (by simp[zcI])) hg;obtain rfl:=ZT hm m1;obtain⟨arr,rfl,hs,hbd,hsh,hpw⟩:=r1.ty_row;have hphi:(g.all w).phi T1.c=some arr:=by simp only[G.all,h1]
   by_cases h0:len*sz=0
   ·have:(cs.drop off).take (len*sz)=[]:=by rw[h0];simp
    rw[this];by_cases hl0:len=0
    ·subst hl0;exact .fs0 Zs
    exact Xk hphi hl PW.nil
   have hc:cap≠0:=by rintro rfl;have:len=0:=Zo;subst this;simp at h0
   obtain⟨rfl,_⟩:=ho hc;refine Xk hphi hl ((((hpw.drop off).take _).mono (Xq h)).congr fun i _=>?_);show _=arr[T1.sh+(off+i)]?;rw[YO]
  exact r'
 exact r'
def lend_rel(h:Inv g base H D w){x:V}{xc:Value}(hD:∀b∈zdB x,D b)(r:VRel g x xc):VRel (g.all w) (lend H x) xc:=by
 by_cases hx:∃f caps,x=.fn f caps
 case neg=>
  by_cases hy:∃cs,x=.agg cs
  ·obtain⟨cs,rfl⟩:=hy;obtain⟨arr,rfl,hs,p⟩:=r.inv_agg;refine Xj (by simpa using hs) fun i y hy=>?_;rw[YT]at hy;cases e:cs[i]? with
   |none=>rw[e]at hy;cases hy
   |some z=>rw[e]at hy;cases hy;obtain⟨u,hu,ru⟩:=p i z e;exact⟨u,hu,zhh h (fun b hb=>hD b (Yay.2 ⟨z,YV e,hb⟩)) ru⟩
  have e:lend H x=zeo H x:=by cases x<;>first|rfl|exact absurd ⟨_,_,rfl⟩ hx|exact absurd ⟨_,rfl⟩ hy
  have e2:zdB x=zcI x:=by cases x<;>first|rfl|exact absurd ⟨_,_,rfl⟩ hx|exact absurd ⟨_,rfl⟩ hy
  rw[e];rw[e2]at hD
  exact zhh h hD r
 obtain⟨f,caps,rfl⟩:=hx;obtain⟨arr,rfl,hs,p⟩:=r.inv_fn;refine Xn (by simpa using hs) fun i y hy=>?_;rw[YT]at hy;cases e:caps[i]? with
 |none=>rw[e]at hy;cases hy
 |some z=>rw[e]at hy;cases hy;obtain⟨u,hu,ru⟩:=p i z e;exact⟨u,hu,zhh h (fun b hb=>hD b (Yay.2 ⟨z,YV e,hb⟩)) ru⟩
def zlU {x:V}:∀ {l:ZA},x∈l→∀b∈zdB x,b∈zck l
 |y::l,hx,b,hb=>by
  rcases Yy.1 hx with rfl|hx
  ·exact YC _ hb
  exact YJ _ (zlU hx b hb)
def zlT(h:Inv g base H D w){l:ZA}(hD:∀b∈zck l,D b){get:Nat→Option Value}(p:PW g l get):PW (g.all w) (l.map (lend H)) get:=by
 intro i x hx;rw[YT]at hx;cases e:l[i]? with
 |none=>rw[e]at hx;cases hx
 |some y=>rw[e]at hx;cases hx;obtain⟨v,hv,r⟩:=p i y e;exact⟨v,hv,lend_rel h (fun b hb=>hD b (zlU (YV e) b hb)) r⟩
def zyA(g:G)(w:World):∀c arr,(g.all w).phi c=some arr→∃t fr,w.heap[c]? =some (.cells arr t fr):=by
 intro c arr e;simp only[G.all]at e;split at e
 ·rename_i a t fr h;cases e;exact⟨t,fr,h⟩
 cases e
structure OpsRel(g:G)(n:Nat)(ops:Array Oper)(o:Oper)(env:Env)(a:Act):Prop where
 glob:GOK g
 size:a.tmps.size=n
 rel:∀t∈o.looksAt ops,∀v,env.lookup t=some v→VRel g v (a.tmps.getD t undef)
def EnvRel.ops {n:Nat}{env:Env}{a:Act}(r:EnvRel g n env a)(ops:Array Oper)(o:Oper):OpsRel g n ops o env a:=⟨r.glob,r.size,fun t _ v e=>r.rel t v e⟩
def zyy(P:Program){ρ ρ':Operand→V}(op:Op)(H:Hp)(h:∀x∈op.operands,ρ x=ρ' x):aop P ρ op H=aop P ρ' op H:=by
 have pairs:∀ps:Array (Nat×Operand),(∀x∈(ps.toList.map (·.2)).toArray,ρ x=ρ' x)→(ps.toList.map fun p=>(p.1,ρ p.2))=(ps.toList.map fun p=>(p.1,ρ' p.2)):=fun ps hp=>
  YbM fun p hm=>by obtain⟨i,x⟩:=p;simp only[hp x (by simpa using ⟨i,by simpa using hm⟩)]
 have args:∀xs:Array Operand,(∀x∈xs,ρ x=ρ' x)→xs.toList.map ρ=xs.toList.map ρ':=fun xs hx=>YbM fun x hm=>hx x (by simpa using hm);cases op<;>simp only[Op.operands]at h<;>first|rfl|skip
 case build t ps=>simp only[aop];rw[pairs ps h]
 case buildSlice t n ps=>simp only[aop];rw[pairs ps h]
 case makeFunc fn first captured=>
  cases fn<;>first|rfl|skip
  simp only[aop]
  rw[args captured fun x hx=>h x (by simp[hx]),args first fun x hx=>h x (by simp[hx])]
 case call c=>
  obtain⟨callee,ags,ts⟩:=c
  cases callee<;>first|rfl|skip
  simp only[aop]
  rw[args ags fun x hx=>h x (by simp[Call.operands,hx])]
 case slice t x lo hi mx=>cases lo<;>cases hi<;>cases mx<;>simp_all [aop]
 case makeMap t r=>
  cases r with
  |none=>rfl
  |some x=>simp only[aop];rw[h x Zs]
 case next it b=>
  cases b with
  |true=>simp only[aop];rw[h it Zs]
  |false=>rfl
 all_goals (simp_all [aop];done)
def part(ns:ZN)(env:Env):Env:=env.filter fun p=>ns.contains p.1
def zen {ns:ZN}{t:Nat}(h:t∈ns):∀env:Env,(part ns env).lookup t=env.lookup t
 |[]=>rfl
 |(k,u)::r=>by
  have ih:=zen h r;unfold part at ih ⊢;rw[YaN];by_cases hk:ns.contains k=true
  ·rw[Yi hk,YE,YE,ih]
  rw[Ye hk,YE,ih];have:(t==k)=false:=by simp;rintro rfl;exact hk (by simpa using h)
  simp only[this]
def zci {ns:ZN}{t:Nat}{v:V}:∀ {env:Env},(part ns env).lookup t=some v→t∈ns
 |[],h=>by simp[part]at h
 |(k,u)::r,h=>by
  unfold part at h;rw[YaN]at h;by_cases hk:ns.contains k=true
  ·rw[Yi hk,YE]at h;by_cases ht:t=k
   ·subst ht;simpa using hk
   have hb:(t==k)=false:=by simp[ht]
   simp only[hb]at h;exact zci h
  rw[Ye hk]at h;exact zci h
def OpsRel.env {g:G}{n:Nat}{ops:Array Oper}{o:Oper}{env:Env}{a:Act}(h:OpsRel g n ops o env a):EnvRel g n (part (o.looksAt ops) env) a:=
 ⟨h.glob,h.size,fun t v e=>by have ht:=zci e;rw[zen ht]at e;exact h.rel t ht v e⟩
def ev_part {ops:Array Oper}{o:Oper}{env:Env}{x:Operand}(h:x∈o.op.operands):ev (part (o.looksAt ops) env) x=ev env x:=by
 cases x with
 |tmp t=>
  have ht:t∈o.looksAt ops:=by unfold Oper.looksAt;exact YC _ (List.mem_filterMap.2 ⟨.tmp t,by simpa using h,rfl⟩)
  simp only[ev,zen ht]
 |_=>rfl
def zm4 {ops:Array Oper}{o:Oper}{env:Env}{a:Act}(r:∀t∈o.looksAt ops,∀v,env.lookup t=some v→VRel g v (a.tmps.getD t undef)){b:Bool}(e:gval ops env o=some b):Region.wanted o (yielded ops a.tmps)=b:=by
 unfold gval at e;unfold Region.wanted;split at e
 ·rename_i hg;rw[hg];cases e;rfl
 rename_i j want hg;rw[hg];split at e
 ·rename_i d hj;have hlook:d∈o.looksAt ops:=by unfold Oper.looksAt;exact YJ _ (by simp[hg,hj])
  have yv:∀t,a.tmps.getD d undef=.bool t→yielded ops a.tmps j=some t:=by
   intro t hb;have hlt:d<a.tmps.size:=by
    by_cases hh:d<a.tmps.size
    ·exact hh
    rw[YU,Yr (Y3 hh)]at hb;cases hb
   unfold yielded;rw[hj];have:a.tmps[d]? =some (.bool t):=by rw[YU,Y6 hlt]at hb;rw[Y6 hlt];simpa using hb
   simp[this]
  have yn:a.tmps.getD d undef=undef→yielded ops a.tmps j=none:=by
   intro hb;unfold yielded;rw[hj];rw[YU]at hb;cases e9:a.tmps[d]? with
   |none=>simp[e9]
   |some v9=>rw[e9]at hb;have:v9=undef:=hb;subst this;simp[e9,undef]
  split at e
  ·rename_i t ht;cases e;have hb:=(r d hlook _ ht).inv_bool;simp only[yv t hb];cases t<;>cases want<;>rfl
  ·rename_i c t ht;cases e;have hr:=r d hlook _ ht;cases hr with
   |opt h1 h2=>
    cases c with
    |false=>simp only[yn (h2 rfl)];rfl
    |true=>simp only[yv t (h1 rfl).inv_bool];cases t<;>cases want<;>rfl
  ·rename_i v0 _ ht;cases e;have hr:=r d hlook _ ht;cases hr with
   |opt h1 h2=>simp only[yn (h2 rfl)];rfl
  ·rename_i ht;cases e;obtain⟨arr,ha,hs,_⟩:=(r d hlook _ ht).inv_tup;have h0:arr=#[]:=by simpa using hs
   subst h0;simp only[yn ha];rfl
  cases e
 cases e
def V.force:V→V
 | .opt b v=>if b=true then v else .any
 |v=>v
def VRel.force {v:V}{vc:Value}(r:VRel g v vc):VRel g v.force vc:=by
 cases v<;>first|exact r|skip
 cases r with
 |opt h1 h2=>
  rename_i b v;show VRel g (if b=true then v else .any) vc;split
  ·rename_i h;exact h1 h
  exact .any _
def zmb {v:V}(h:v.cond):v.force=v.val:=by
 cases v<;>first|rfl|exact Yi h
def VRel.val {v:V}{vc:Value}(r:VRel g v vc)(h:v.cond):VRel g v.val vc:=zmb h▸r.force
def zg9:∀ {l:ZA},needs l→∀v∈l,v.cond
 |_::_,h,v,hv=>by
  rcases Yy.1 hv with rfl|hv
  ·exact h.1
  exact zg9 h.2 v hv
def ztU {ρ:Operand→V}{o:Op}(hs:zfo o=true)(hp:(aop P ρ o H).pre):(aop P ρ o H).h=H∧(aop P ρ o H).W=[]:=by
 revert hp;cases o;all_goals try exact(Yce hs).elim
 case call c=>
  obtain⟨callee,args,ts⟩:=c
  cases callee
  all_goals try exact(Yce hs).elim
  rename_i b
  simp only[aop]
  cases b
  all_goals try exact(Yce hs).elim
  all_goals generalize args.toList.map ρ=l
  all_goals rcases l with _|⟨x,_|⟨y,_|⟨z,_|⟨u,l⟩⟩⟩⟩
  all_goals simp only[zcr]
  all_goals try unfold aLen
  all_goals try unfold aMax
  all_goals try unfold zmU
  all_goals repeat' split
  all_goals first|(intro hp;exact hp.elim)|(intro _;exact⟨rfl,rfl⟩)
 case makeFunc fn first caps=>
  cases fn
  all_goals simp only[aop]
  all_goals repeat' split
  all_goals first|(intro hp;exact hp.elim)|(intro _;exact⟨rfl,rfl⟩)
 all_goals unfold aop
 all_goals try dsimp only
 all_goals try unfold zdp
 all_goals try unfold zcW
 all_goals try unfold aNil
 all_goals try unfold aBin
 all_goals try unfold aUn
 all_goals try unfold zbM
 all_goals try unfold zeB
 all_goals try unfold zbm
 all_goals try unfold zaB
 all_goals try unfold zhJ
 all_goals try unfold zaa
 all_goals try unfold zb0
 all_goals try unfold zbn
 all_goals repeat' split
 all_goals first
  |(intro hp;exact hp.elim)
  |(intro _;exact⟨rfl,rfl⟩)
  |(intro hp
    cases hq:xEq P _ _ _ _ H with
    |none=>rw[hq]at hp;exact hp.elim
    |some r=>exact xEq_h hq)
  |(intro hp
    cases hq:zc1 P _ _ _ H with
    |none=>rw[hq]at hp;exact hp.elim
    |some r=>exact zgn hq)
  |(intro hp
    cases hq:zc2 P _ _ H with
    |none=>rw[hq]at hp;exact hp.elim
    |some r=>exact zgo hq)
def OpsRel.force {n:Nat}{ops:Array Oper}{o:Oper}{env:Env}{a:Act}(h:OpsRel g n ops o env a)(x:Operand):VRel g (ev (part (o.looksAt ops) env) x).force (a.eval x):=(h.env.ev x).force
def zgQ {ops:Array Oper}{o:Oper}{env:Env}{x:Operand}(hx:x∈o.op.operands)(hc:(ev env x).cond):rho env x=(ev (part (o.looksAt ops) env) x).force:=by rw[ev_part hx,rho,zmb hc]
def OpsRel.val {n:Nat}{ops:Array Oper}{o:Oper}{env:Env}{a:Act}(h:OpsRel g n ops o env a){x:Operand}(hx:x∈o.op.operands)(hc:(ev env x).cond):VRel g (ev env x).val (a.eval x):=by have:=h.force x;rw[←zgQ hx hc]at this;exact this
structure StepSem(P:Program)(n:Nat)(ops:Array Oper)(o:Oper)(env:Env)(H:Hp)(st:Bool)(v:V)(h:Hp)(f:Foot):Prop where
 stat:Stat H h f.W
 still:st=true→h=H∧f.W=[]
 births:∀b,H.next≤b→b<h.next→f.lo≤b∧b<f.hi
 exec:∀(g:G)(base:Nat)(D:Nat→Prop)(w:World)(a:Act)(next:Act→World→Prop)(Q:Exit→Act→World→Prop),Inv g base H D w→OpsRel g n ops o env a→(∀b∈f.R++f.W,D b)→
  (∀g' w' vc,VRel g' v vc→Post g g' base H h D f.W w w'→next (a.put o.dst vc) w')→o.wp P a w next Q
def zi1(P:Program)(n:Nat)(ops:Array Oper)(o:Oper)(env:Env)(H:Hp)(v:V)(R:ZN):Prop:=
 ∀(g:G)(base:Nat)(D:Nat→Prop)(w:World)(a:Act)(next:Act→World→Prop)(Q:Exit→Act→World→Prop),Inv g base H D w→OpsRel g n ops o env a→(∀b∈R,D b)→
  (∀g' w' vc,VRel g' v vc→Post g g' base H H D [] w w'→Q (.panic [{ v:=vc,recovered:=false }]) a w')→o.wp P a w next Q
def zif(P:Program)(n:Nat)(ops:Array Oper)(o:Oper)(env:Env)(H:Hp):SR→Prop
 | .ok st pre v h f=>pre→StepSem P n ops o env H st v h f
 | .pan pre v R=>pre→zi1 P n ops o env H v R
 | .bad=>True
def zeM {C:Cfg}(hΓ:zfg P C)(ops:Array Oper)(o:Oper)(env:Env)(H:Hp):zif P C.nt ops o env H (step1 C P env o.op H):=by
 have gen:zif P C.nt ops o env H (.ok (zfo o.op) (needs (o.op.operands.toList.map (ev env))∧(aop P (rho env) o.op H).pre) (aop P (rho env) o.op H).v (aop P (rho env) o.op H).h
  ⟨(aop P (rho env) o.op H).R,(aop P (rho env) o.op H).W,H.next,(aop P (rho env) o.op H).h.next⟩):=by
  rintro⟨hnd,hp⟩
  refine⟨aop_stat hp,fun hs=>ztU hs hp,fun b h1 h2=>⟨h1,h2⟩,?_⟩
  intro g base D w a next Q hI hO hD hn
  have hcg:aop P (rho env) o.op H=aop P (fun x=>(ev (part (o.looksAt ops) env) x).force) o.op H:=zyy P o.op H fun x hx=>
   zgQ hx (zg9 hnd _ (YZ.2 ⟨x,by simpa using hx,rfl⟩))
  dsimp only at hD hn
  rw[hcg]at hp hD hn
  obtain⟨g',w',vc,nx,hrun,hnx,hv,hpost⟩:=aop_ok (P:=P) hI (fun x=>hO.force x) o hp (fun b hb=>hD b (YC _ hb))
  unfold Oper.wp
  rw[hrun]
  rcases hnx with rfl|⟨rfl,rfl⟩
  ·exact hn g' w' vc hv hpost
  ·exact hn g' w' undef hv hpost
 obtain⟨dst,op,type,pos,after,guard⟩:=o;cases op<;>first|exact gen|skip
 case pick c a b=>
  have mem:c∈(Op.pick c a b).operands∧a∈(Op.pick c a b).operands∧b∈(Op.pick c a b).operands:=by simp[Op.operands]
  have core:∀(t:Bool)(v:V),(ev env c).val=.bool t→(ev env c).cond→(t=true→(ev env a).cond)→(t=false→(ev env b).cond)→(t=true→v=(ev env a).val)→(t=false→v=(ev env b).val)→
   StepSem P C.nt ops { dst,op:=.pick c a b,type,pos,after,guard } env H true v H ⟨[],[],0,0⟩:=by
   intro t v hc h1 h2 h3 h4 h5
   refine⟨Stat.refl H,fun _=>⟨rfl,rfl⟩,fun b h1 h2=>Zo,?_⟩
   intro g base D w act next Q hI hO hD hn
   have hcv:=hO.val (x:=c) mem.1 h1
   rw[hc]at hcv
   have hcb:=hcv.inv_bool
   have hrun:(execOp act.eval { dst,op:=.pick c a b,type,pos,after,guard }).run P w=.ok (.value (if t=true then act.eval a else act.eval b)) w:=by simp only[execOp,hcb];cases t<;>rfl
   unfold Oper.wp
   rw[hrun]
   refine hn g w _ ?_ (Post.refl hI rfl rfl ⟨rfl,Yc _⟩ rfl)
   cases t with
   |true=>rw[h4 rfl];exact hO.val (x:=a) mem.2.1 (h2 rfl)
   |false=>rw[h5 rfl];exact hO.val (x:=b) mem.2.2 (h3 rfl)
  show zif P C.nt ops _ env H (zd9 (ev env c) (ev env a) (ev env b) H)
  unfold zd9
  split
  ·rename_i t hc;split
   ·rename_i x y ha hb;rintro⟨h1,h2,h3⟩;exact core t _ hc h1 h2 h3 (fun e=>by subst e;exact ha.symm) (fun e=>by subst e;exact hb.symm)
   rintro⟨h1,h2,h3⟩;exact core t _ hc h1 h2 h3 (fun e=>by subst e;simp) (fun e=>by subst e;simp)
  ·trivial
 case box t x=>
  show zif P C.nt ops _ env H (if C.fz t=true then _ else _)
  by_cases hfz:C.fz t=true
  ·rw[Yi hfz];rintro⟨hc,hok⟩;refine⟨Stat.refl H,fun _=>⟨rfl,rfl⟩,fun b h1 h2=>absurd h2 (Nat.not_lt.2 h1),?_⟩;intro g base D w a next Q hI hO hD hn
   have hx:=hO.val (x:=x) (by simp[Op.operands]) hc;obtain⟨hs,hpw,_⟩:=zai hx hok;have hrun:(execOp a.eval { dst,op:=.box t x,type,pos,after,guard }).run P w=.ok (.value (.pointer (some ⟨w.heap.size,0,none⟩))) (w.alloc (.cells (a.eval x).cells t)):=by simp[execOp,Instr.box,newVar,newRow]
   unfold Oper.wp;rw[hrun];have hnew:∀c ar,(if c=w.heap.size then some (a.eval x).cells else none)=some ar→w.heap.size≤c∧∃t fr,(w.alloc (.cells (a.eval x).cells t)).heap[c]? =some (.cells ar t fr):=by
    intro c ar e;split at e
    ·rename_i hce;subst hce;cases e;exact⟨Yc _,t,(0,0),by show (w.heap.push _)[w.heap.size]? =_;simp⟩
    cases e
   refine hn (g.more fun c=>if c=w.heap.size then some (a.eval x).cells else none) _ _ ?_ (Post.pure (D:=D) hI _ (.of ((Go.RowKit.Below.refl _ _).alloc (Yc _) _) (Yc _)) fun c ar e=>?_)
   ·refine VRel.mk_fp (arr:=(a.eval x).cells) ?_ ((hpw.mono (g.more_le _)).congr fun i _=>by show (a.eval x).cells[0+i]? =_;rw[Yae]);show (g.phi w.heap.size).or _=_;have:g.phi w.heap.size=none:=by
     cases e:g.phi w.heap.size with
     |none=>rfl
     |some ar=>exact absurd (hI.below_phi e) Zo
    rw[this];simp
   split at e
   ·rename_i hce;subst hce;cases e;exact⟨Yc _,t,(0,0),by show (w.heap.push _)[w.heap.size]? =_;simp⟩
   cases e
  ·rw[Ye hfz];exact gen
 case call c=>
  obtain⟨callee,args,argTypes⟩:=c
  cases callee<;>first|exact gen|skip
  rename_i f
  show zif P C.nt ops _ env H (match (ev env f).val with
   | .fn fid caps=>zhB C fid (args.toList.map (rho env)++caps) ((ev env f).cond∧needs (args.toList.map (ev env))) H
   | .bnd fid fs=>zhB C fid (fs++args.toList.map (rho env)) ((ev env f).cond∧needs (args.toList.map (ev env))) H
   |_=>.bad)
  have hmemf:f∈(Op.call { callee:=.value f,args,argTypes }).operands:=by simp[Op.operands,Call.operands]
  have hmema:∀x∈args,x∈(Op.call { callee:=.value f,args,argTypes }).operands:=fun x hx=>by simp[Op.operands,Call.operands,hx]
  have hma:needs (args.toList.map (ev env))→∀ {g:G} {a:Act},OpsRel g C.nt ops { dst,op:=.call { callee:=.value f,args,argTypes },type,pos,after,guard } env a→PW g (args.toList.map (rho env)) (fun i=>(args.map a.eval)[i]?):=by
   intro hnd g a hO;have hm:=zj5 (fun x=>hO.force x) args;have hme:args.toList.map (fun x=>(ev (part (Oper.looksAt ops { dst,op:=.call { callee:=.value f,args,argTypes },type,pos,after,guard }) env) x).force)=args.toList.map (rho env):=
    YbM fun x hx=>(zgQ (hmema x (by simpa using hx)) (zg9 hnd _ (YZ.2 ⟨x,hx,rfl⟩))).symm
   rw[hme]at hm;exact hm
  have fin:∀(fid:FuncId)(ags:ZA),((ev env f).cond∧needs (args.toList.map (ev env))→∀ {g:G} {a:Act},OpsRel g C.nt ops { dst,op:=.call { callee:=.value f,args,argTypes },type,pos,after,guard } env a→
   ∃vs:Array Value,vs.size=ags.length∧PW g ags (fun i=>vs[i]?)∧
   ∀w:World,(execOp a.eval { dst,op:=.call { callee:=.value f,args,argTypes },type,pos,after,guard }).run P w=(callFunc fid vs).run P w)→
   zif P C.nt ops { dst,op:=.call { callee:=.value f,args,argTypes },type,pos,after,guard } env H (zhB C fid ags ((ev env f).cond∧needs (args.toList.map (ev env))) H):=by
   intro fid ags conc
   have viaΔ:∀rr,C.Δ fid ags H=some rr→zif P C.nt ops { dst,op:=.call { callee:=.value f,args,argTypes },type,pos,after,guard } env H
    (.ok false (((ev env f).cond∧needs (args.toList.map (ev env)))∧rr.pre) rr.v rr.h ⟨rr.R,rr.W,H.next,rr.h.next⟩):=by
    intro rr hg
    rintro⟨hnd,hpre⟩
    obtain⟨hstat,hcall⟩:=hΓ.2 _ _ _ _ hg
    refine⟨hstat hpre,fun e=>(by cases e),fun b h1 h2=>⟨h1,h2⟩,?_⟩
    intro g base D w a next Q hI hO hD hn
    obtain⟨vs,hvs,hpw,hrun⟩:=conc hnd hO
    refine GoCall.wp (hcall hpre g base D w _ hO.glob hI hvs hpw hD) (hrun w) fun e w' hpost=>?_
    obtain⟨g',vc,rfl,hv,hp⟩:=hpost
    exact hn g' w' vc hv hp
   unfold zhB
   split
   ·split
    ·rename_i v hg;intro hnd;have hcall:=hΓ.1 _ _ _ hg;refine⟨Stat.refl H,fun _=>⟨rfl,rfl⟩,fun b h1 h2=>Zo,?_⟩;intro g base D w a next Q hI hO hD hn
     obtain⟨vs,hvs,hpw,hrun⟩:=conc hnd hO;refine GoCall.wp (hcall g w _ hO.glob hI.frz (by simpa using hvs) (zu6 hpw)) (hrun w) fun e w' hpost=>?_;obtain⟨phi',vc,hphi,hbel,rfl,hv⟩:=hpost;exact hn (g.more phi') w' vc (hv.mono (more_le g phi')) (Post.pure (D:=D) hI phi' hbel hphi)
    ·rename_i v hg;intro hnd g base D w a next Q hI hO hD hn
     have hcall:=hΓ.1 _ _ _ hg;obtain⟨vs,hvs,hpw,hrun⟩:=conc hnd hO;refine GoCall.wp (hcall g w _ hO.glob hI.frz (by simpa using hvs) (zu6 hpw)) (hrun w) fun e w' hpost=>?_;obtain⟨phi',vc,hphi,hbel,rfl,hv⟩:=hpost;exact hn (g.more phi') w' vc (hv.mono (more_le g phi')) (Post.pure (D:=D) hI phi' hbel hphi)
    split
    ·rename_i rr hg;exact viaΔ rr hg
    trivial
   split
   ·rename_i rr hg;exact viaΔ rr hg
   split
   ·rename_i v hg;rintro⟨hnd,hsc⟩;have hcall:=hΓ.1 _ _ _ hg;refine⟨Stat.refl H,fun _=>⟨rfl,rfl⟩,fun b h1 h2=>Zo,?_⟩;intro g base D w a next Q hI hO hD hn
    obtain⟨vs,hvs,hpw,hrun⟩:=conc hnd hO;refine GoCall.wp (hcall (g.all w) w _ (hO.glob.mono (Xq hI).2) (zyA g w) (by simpa using hvs) (zlT hI (fun b hb=>hD b (YC _ hb)) hpw)) (hrun w) fun e w' hpost=>?_;obtain⟨phi',vc,hphi,hbel,rfl,hv⟩:=hpost;exact hn (g.more fun _=>none) w' vc (zfs hsc hv) (Post.pure (D:=D) hI (fun _=>none) hbel (fun c a e=>by cases e))
   ·rename_i v hg;rintro⟨hnd,hsc⟩ g base D w a next Q hI hO hD hn
    have hcall:=hΓ.1 _ _ _ hg;obtain⟨vs,hvs,hpw,hrun⟩:=conc hnd hO;refine GoCall.wp (hcall (g.all w) w _ (hO.glob.mono (Xq hI).2) (zyA g w) (by simpa using hvs) (zlT hI hD hpw)) (hrun w) fun e w' hpost=>?_;obtain⟨phi',vc,hphi,hbel,rfl,hv⟩:=hpost;exact hn (g.more fun _=>none) w' vc (zfs hsc hv) (Post.pure (D:=D) hI (fun _=>none) hbel (fun c a e=>by cases e))
   ·trivial
  split
  ·rename_i fid caps hf;refine fin fid _ ?_;rintro⟨hcf,hnd⟩ g a hO;have hfr:=hO.val hmemf hcf;rw[hf]at hfr;obtain⟨cs,hfe,hcs,hcp⟩:=hfr.inv_fn;refine⟨(args.map a.eval)++cs,by simp[hcs],zi0 Zs (hma hnd hO) hcp,fun w=>?_⟩;simp only[execOp,resolve,hfe,Deferred.ofValue,pure_bind,invoke,Array.empty_append]
  ·rename_i fid fs hf;refine fin fid _ ?_;rintro⟨hcf,hnd⟩ g a hO;have hfr:=hO.val hmemf hcf;rw[hf]at hfr;obtain⟨cs,hfe,hcs,hcp⟩:=hfr.inv_bnd;refine⟨cs++(args.map a.eval),by simp[hcs],zi0 (by simp[hcs]) hcp (hma hnd hO),fun w=>?_⟩;simp only[execOp,resolve,hfe,Deferred.ofValue,pure_bind,invoke,Array.append_empty]
  ·trivial
 case panic x=>
  show zif P C.nt ops _ env H (match (ev env x).val with
   | .ifc t v=>.pan (ev env x).cond (.ifc t v) []
   |_=>.bad)
  split
  rotate_left;·trivial
  rename_i t v hx
  intro hcx g base D w a next Q hI hO hD hn
  have hxr:=hO.val (x:=x) (by simp[Op.operands]) hcx
  rw[hx]at hxr
  have hxr0:=hxr
  generalize hax:a.eval x=xc at hxr hxr0
  cases hxr with
  |ifc hv=>
   rename_i vc
   unfold Oper.wp execOp
   simp only[hax,Instr.panic,Sem.run_bind,run_goPanic,Result.andThen_halt]
   exact hn g w _ hxr0 (Post.refl hI rfl rfl ⟨rfl,Yc _⟩ rfl)
def zwo {C:Cfg}{n:Nat}{ops:Array Oper}{o:Oper}{env:Env}{r:SR}{k:V→Hp→Foot→Prop}{kp:V→Prop}(hs:zif P n ops o env H r)(h:fol C r k kp):(∃st v h' f,k v h' f∧wok C f.W=true∧StepSem P n ops o env H st v h' f)∨(∃v R,kp v∧zi1 P n ops o env H v R):=by
 cases r with
 |ok st pre v h' f=>exact .inl ⟨st,v,h',f,h.2.2,h.2.1,hs h.1⟩
 |pan pre v R=>exact .inr ⟨v,R,h.2,hs h.1⟩
 |bad=>exact h.elim
def zob {C:Cfg}{n:Nat}{ops:Array Oper}{o:Oper}{env:Env}{r:SR}{gb:Bool}{k:V→Hp→Foot→Prop}{kp:V→Prop}(hs:zif P n ops o env H r)(h:folG C gb r H k kp):(gb=true∧∃st v h' f,k v h' f∧wok C f.W=true∧StepSem P n ops o env H st v h' f)∨(gb=true∧∃v R,kp v∧zi1 P n ops o env H v R)∨(gb=false∧k undefV H ⟨[],[],0,0⟩)∨(∃v R,k (.opt gb v) H ⟨R,[],0,0⟩∧(gb=true→StepSem P n ops o env H true v H ⟨R,[],0,0⟩)):=by
 cases r with
 |ok st pre v h' f=>
  cases st with
  |true=>
   refine .inr (.inr (.inr ⟨v,f.R,h.2,fun e=>?_⟩));have hst:=hs (h.1 e);obtain⟨rfl,hw⟩:=hst.still rfl;refine⟨Stat.refl _,fun _=>⟨rfl,rfl⟩,fun b h1 h2=>Zo,?_⟩;intro g base D w a next Q hI hO hD hn
   refine hst.exec g base D w a next Q hI hO (fun b hb=>?_) fun g' w' vc hv hp=>hn g' w' vc hv ?_
   ·rw[hw]at hb;exact hD b hb
   rw[hw]at hp;exact hp
  |false=>
   cases gb with
   |true=>
    have h1:pre∧wok C f.W=true∧k v h' f:=by simpa[folG]using h
    exact .inl ⟨rfl,false,v,h',f,h1.2.2,h1.2.1,hs h1.1⟩
   |false=>exact .inr (.inr (.inl ⟨rfl,by simpa[folG]using h⟩))
 |pan pre v R=>
  cases gb with
  |true=>
   have h':pre∧kp v:=by simpa[folG]using h
   exact .inr (.inl ⟨rfl,v,R,h'.2,hs h'.1⟩)
  |false=>exact .inr (.inr (.inl ⟨rfl,by simpa[folG]using h⟩))
 |bad=>exact .inr (.inr (.inl h))
def znC {gb:Bool}{v:V}{vc:Value}(e:gb=true)(h:VRel g v vc):VRel g (.opt gb v) vc:=.opt (fun _=>h) fun e'=>by rw[e]at e';cases e'
def zg4 {gb:Bool}{v:V}(e:gb=false):VRel g (.opt gb v) undef:=.opt (fun e'=>by rw[e]at e';cases e') fun _=>rfl
def zeC {C:Cfg}{g0:G}{H0:Hp}{w0:World}{ops:Array Oper}{K:Out→St→Prop}(he:Entry C base D g0 H0 w0)(hΓ:zfg P C)(hd:∀o∈ops.toList,∀d,o.dst=some d→d<C.nt) (Q:Exit→Act→World→Prop) (hQ:∀e a w,Aft C base D g0 H0 w0 K e a w→Q e a w):∀(os:List Oper)(i:Nat),ops.toList.drop i=os→∀(s:St)(g:G)(a:Act)(w:World),Rel C base D g0 H0 w0 g s a w→ARun C P ops os s K→wpOps P ops Q (List.range' i os.length) a w
 |[],i,_,s,g,a,w,r,h=>hQ _ _ _ ⟨.norm,s,g,h,trivial,r⟩
 |o::os,i,hi,s,g,a,w,r,h=>by
  have ho:ops[i]? =some o:=by
   have:(ops.toList.drop i)[0]? =some o:=by rw[hi];rfl
   rw[Y8]at this;rw[←YF];simpa using this
  have hos:ops.toList.drop (i+1)=os:=by rw[←YaR,hi];rfl
  have hmem:o∈ops.toList:=YV (by rw[YF];exact ho);have hdo:=hd o hmem;have hO:=r.env.ops ops o;have sem:=zeM hΓ ops o s.env s.h;rw[Yv,List.range'_succ];simp only[wpOps,ho];have put_h:∀v h',((s.put o.dst v).hp h').h=h':=fun _ _=>rfl;have dput:∀(b:Act)(vc:Value),b.defers=C.dl→(b.put o.dst vc).defers=C.dl:=fun b vc e=>by cases o.dst<;>exact e
  have go:∀(st:Bool)(v:V)(h':Hp)(f:Foot),ARun C P ops os ((s.put o.dst v).hp h') K→wok C f.W=true→StepSem P C.nt ops o s.env s.h st v h' f→o.wp P a w (wpOps P ops Q (List.range' (i+1) os.length)) Q:=by intro st v h' f hk hw hst;refine hst.exec g base _ w a _ Q r.post.inv hO (fun b _=>he.inD b) fun g' w' vc hv hp=>?_;exact zeC he hΓ hd Q hQ os (i+1) hos ((s.put o.dst v).hp h') g' _ w' ⟨(r.env.mono hp.le).put hdo hv,dput _ _ r.defers,r.step he hp hw⟩ hk
  have pan:∀(v:V)(R:ZN),K (.panic v) s→zi1 P C.nt ops o s.env s.h v R→o.wp P a w (wpOps P ops Q (List.range' (i+1) os.length)) Q:=by intro v R hk hst;refine hst g base _ w a _ Q r.post.inv hO (fun b _=>he.inD b) fun g' w' vc hv hp=>?_;exact hQ _ _ _ ⟨.panic v,s,g',hk,⟨vc,hv,rfl⟩,r.env.mono hp.le,r.defers,r.step he hp rfl⟩
  have skip:∀v,VRel g v undef→ARun C P ops os ((s.put o.dst v).hp s.h) K→wpOps P ops Q (List.range' (i+1) os.length) (a.put o.dst undef) w:=fun v hv hk=>
   zeC he hΓ hd Q hQ os (i+1) hos ((s.put o.dst v).hp s.h) g _ w ⟨r.env.put hdo hv,dput _ _ r.defers,r.post⟩ hk
  unfold ARun at h;split at h
  ·rename_i hg;have hw:Region.wanted o (yielded ops a.tmps)=true:=by unfold Region.wanted;rw[hg]
   rw[Yi hw];rcases zwo sem h with⟨st,v,h',f,hk,hwk,hst⟩|⟨v,R,hk,hst⟩
   ·exact .inl (go st v h' f hk hwk hst)
   exact .inl (pan v R hk hst)
  split at h;rotate_left;·exact h.elim
  rename_i gb hg;have hw:=zm4 hO.rel hg;rcases zob sem h with⟨rfl,st,v,h',f,hk,hwk,hst⟩|⟨rfl,v,R,hk,hst⟩|⟨rfl,hk⟩|⟨v,R,hk,hst⟩
  ·rw[Yi hw];exact .inl (go st v h' f hk hwk hst)
  ·rw[Yi hw];exact .inl (pan v R hk hst)
  ·rw[Ye (by rw[hw];simp)];exact skip _ (Xf rfl PW.nil) hk
  cases gb with
  |true=>rw[Yi hw];refine .inl ?_;refine(hst rfl).exec g base _ w a _ Q r.post.inv hO (fun b _=>he.inD b) fun g' w' vc hv hp=>?_;exact zeC he hΓ hd Q hQ os (i+1) hos ((s.put o.dst (.opt true v)).hp s.h) g' _ w' ⟨(r.env.mono hp.le).put hdo (znC rfl hv),dput _ _ r.defers,r.step he hp rfl⟩ hk
  |false=>rw[Ye (by rw[hw];simp)];exact skip _ (zg4 rfl) hk
end
end Go.Ab
