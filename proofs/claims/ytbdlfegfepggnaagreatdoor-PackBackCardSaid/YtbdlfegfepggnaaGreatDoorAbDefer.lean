/- Functions with a deferred call: how they begin and end. -/
import Derived.Defers
import Derived.Test.YtbdlfegfepggnaaGreatDoorRP1
set_option linter.all false
set_option maxHeartbeats 16000000
set_option maxRecDepth 100000
noncomputable section
namespace Go.Ab
open Go
def Inv.junk {g:G}{base:Nat}{H:Hp}{D:Nat→Prop}{w:World}(h:Inv g base H D w)(o:Obj):Inv g base H D (w.alloc o):=by
 have old:∀c x,w.heap[c]? =some x→(w.alloc o).heap[c]? =some x:=fun c x hc=>by have hlt:=(YA.1 hc).1;show (w.heap.push o)[c]? =some x;rw[YbV hlt,←hc,Y6 hlt]
 have hs:(w.alloc o).heap.size=w.heap.size+1:=Array.size_push _;refine⟨fun c a e=>?_,fun b T e=>?_,h.keys,fun b x hd e=>?_,h.inj,by rw[hs];have:=h.base;omega⟩
 ·obtain⟨t,fr,hh⟩:=h.frz c a e;exact⟨t,fr,old _ _ hh⟩
 ·obtain⟨a1,a2,a3⟩:=h.dom b T e;exact⟨a1,a2,by rw[hs];omega⟩
 obtain⟨T,x',a1,a2,a3,a4⟩:=h.cont b x hd e;exact⟨T,x',a1,a2,old _ _ a3,a4⟩
def Post.junk {g g':G}{base:Nat}{H H':Hp}{D:Nat→Prop}{W:ZN}{w w':World}(p:Post g g' base H H' D W w w')(o:Obj):Post g g' base H H' D W w (w'.alloc o):=by have hs:(w'.alloc o).heap.size=w'.heap.size+1:=Array.size_push _;refine⟨p.le,p.inv.junk o,p.newmu,p.newphi,fun c hc hw=>?_,by rw[hs];have:=p.size;omega,p.os,⟨p.tape.eq,p.tape.le⟩,p.output,p.aframe,p.anext⟩;rw[←p.frame c hc hw];have:=p.size;show (w'.heap.push o)[c]? =_;rw[YbV Zo,Y6]
def Rel.junk {C:Cfg}{base:Nat}{D:Nat→Prop}{g0:G}{H0:Hp}{w0:World}{g:G}{s:St}{a:Act}{w:World}(r:Rel C base D g0 H0 w0 g s a w)(o:Obj):Rel C base D g0 H0 w0 g s a (w.alloc o):=
 ⟨r.env,r.defers,r.post.junk o⟩
def Rel.ends {P:Program}{fn:Func}{C:Cfg}{g:G}{w w':World}{g1:G}{s:St}{a:Act}{v:V}(h3:Rel C w.heap.size (fun _=>True) ⟨fun _=>none,g.phi⟩ ⟨[],0⟩ w g1 s a w')(hfrz:∀c arr,g.phi c=some arr→∃t fr,w.heap[c]? =some (.cells arr t fr))(hW:C.Wm=[]) (hrp:resP P fn s) (hz:Frz s.h (resV P fn s) v):∃vc,(results fn a.tmps).run P w'=.ok vc w'∧∃phi' vc',(∀c a,phi' c=some a→w.heap.size≤c∧∃t fr,w'.heap[c]? =some (.cells a t fr))∧Bel w.heap.size w w'∧Ending.returned vc=(PR.ret v).ending vc'∧VRel (G.more ⟨fun _=>none,g.phi⟩ phi') (PR.ret v).v vc':=by
 have hbel:Bel w.heap.size w w':=⟨h3.post.os,h3.post.tape,h3.post.output,h3.post.size,fun k hk=>h3.post.frame k hk fun b hb=>by rw[hW]at hb;cases hb⟩;let phi':Nat→Option (Array Value):=fun c=>if w.heap.size≤c then(match w'.heap[c]? with|some (.cells arr _ _)=>some arr|_=>none)else none
 have hphi:∀c a,phi' c=some a→w.heap.size≤c∧∃t fr,w'.heap[c]? =some (.cells a t fr):=by
  intro c a e;simp only[phi']at e;split at e
  ·rename_i hc';refine⟨hc',?_⟩;split at e
   ·rename_i arr t fr h';cases e;exact⟨t,fr,h'⟩
   cases e
  cases e
 have up:∀ {v v':V},Frz s.h v v'→∀ {vc:Value},VRel g1 v vc→VRel (G.more ⟨fun _=>none,g.phi⟩ phi') v' vc:=by
  intro v v' hz vc hv;refine hz.rel h3.post.inv (fun b=>.inl trivial) (fun c a e=>?_) (fun c arr t hge hcell=>?_) hv
  ·rcases h3.post.newphi c a e with e0|hge
   ·show (g.phi c).or (phi' c)=some a;have e0':g.phi c=some a:=e0;rw[e0'];rfl
   obtain⟨t,fr,hh⟩:=h3.post.inv.frz c a e;show (g.phi c).or (phi' c)=some a;have hn:g.phi c=none:=by
    cases e9:g.phi c with
    |none=>rfl
    |some a9=>obtain⟨t9,fr9,h9⟩:=hfrz c a9 e9;have:=(YA.1 h9).1;omega
   rw[hn];simp only[phi',Yi hge,hh];rfl
  show (g.phi c).or (phi' c)=some arr;have hn:g.phi c=none:=by
   cases e9:g.phi c with
   |none=>rfl
   |some a9=>obtain⟨t9,fr9,h9⟩:=hfrz c a9 e9;have:=(YA.1 h9).1;omega
  rw[hn];simp only[phi',Yi hge,hcell];rfl
 obtain⟨vc,hrun,hv⟩:=zft (P:=P) (w:=w') h3.post.inv (fun b=>.inl trivial) hrp h3.env;exact⟨vc,hrun,phi',vc,hphi,hbel,rfl,up hz hv⟩
def Inv.begin {g:G}{w:World}(hfrz:∀c arr,g.phi c=some arr→∃t fr,w.heap[c]? =some (.cells arr t fr)):Inv ⟨fun _=>none,g.phi⟩ w.heap.size ⟨[],0⟩ (fun _=>True) w:=
 ⟨hfrz,fun b T e=>(by cases e),fun b x e=>(by cases e),fun b x _ e=>(by cases e),fun b b' x x' T T' _ _ e e'=>(by cases e),Yc _⟩
end Go.Ab

namespace Go.Proofs
open Tryz Go.Ab
def zoH(w:World):(Instr.typeAssert .nilIface 20 108 true).run prog w=.ok (.tuple #[.agg #[],.bool false]) w:=by have h1:prog.underlying 108=some (.struct #[]):=Zk;have h2:zaw prog 108=some (.agg #[]):=Zk;simp[Instr.typeAssert,run_underlying h1,za5 h2]
def zoo(p q r:Value)(w:World):CallsD prog 69 #[p,q,r] .returning w fun e u' w'=>e=.returned (.tuple #[])∧u'=.returning∧w'=w.alloc (.cells #[] 108):=by refine callsD_of_wpS func69 rfl fun c₀ cs hu=>?_;apply wpS_seq;apply wpS_region;simp[wpOpsS,go_sem,recoverD,hu,ntmps69,Exit.thenS,zoH];apply wpS_seq;apply wpS_region;simp[wpOpsS,go_sem,Exit.thenS];refine wpS_cond (t:=false) (by simp[Act.eval,Array.replicate]) ?_;simp only[Y2,if_false];refine wpS_of_wp (wp_skip ?_);cases c₀;simp_all [bodyPostS,results,Tryz.results69]
def tailC:Option Code→Code
 |some (.seq _ (.seq _ c))=>c
 |_=>.skip
def readC:Code:=tailC (prog.funcs[46]?.bind (·.body))
def readS(arg:V):St:=⟨[(4,.ptr 2 0),(3,.ptr 1 0),(2,.ptr 0 0),(0,arg)],⟨[(2,.cells [.bool false]),(1,.cells [.nilS]),(0,.cells [.int .i64 0,.int .i64 0,.str [],.nilS])],3⟩⟩
def read_P {arg v:V}{C0:Cfg}{fn:Func}(hfn:prog.funcs[46]? =some fn)(hp:Pure arg)(hnt:C0.nt=83)(hnx:C0.nx=0)(hW:C0.Wm=[]) (h:∀dl:List Deferred,AX { C0 with dl:=dl } prog readC (readS arg) fun o s=>(o=.norm∨o=.ret)∧Ab.resP prog fn s∧Frz s.h (Ab.resV prog fn s) v):PCall prog 46 [arg] (.ret v):=by
 intro g w vs hgl hphi hsz hpw;obtain⟨v0,hv0,r0⟩:=hpw 0 _ rfl;have hvs:vs=#[v0]:=by
  apply Yao;intro i;match i with
  |0=>exact hv0
  |i+1=>rw[Yr (by simp at hsz;omega),Yr Zs]
 subst hvs;have hinv:=Inv.begin (w:=w) hphi;let g0:G:=⟨fun _=>none,g.phi⟩
 have p1:=Post.new (w':=w.alloc (.cells #[.int .i64 0,.int .i64 0,.string .empty,.slice none 0 0] 24)) hinv (x:=.cells [.int .i64 0,.int .i64 0,.str [],.nilS]) (o:=.cells #[.int .i64 0,.int .i64 0,.string .empty,.slice none 0 0] 24) (tot:=4) rfl rfl ⟨rfl,Yc _⟩ rfl
  (.cells rfl Zs (fun i x e=>by
   match i,e with
   |0,e=>cases e;exact⟨_,rfl,.int _ _⟩
   |1,e=>cases e;exact⟨_,rfl,.int _ _⟩
   |2,e=>cases e;exact⟨_,rfl,.str rfl⟩
   |3,e=>cases e;exact⟨_,rfl,.nilS⟩))
 have p2:=Post.new (w':=(w.alloc (.cells #[.int .i64 0,.int .i64 0,.string .empty,.slice none 0 0] 24)).alloc (.cells #[.slice none 0 0] 25)) p1.inv (x:=.cells [.nilS]) (o:=.cells #[.slice none 0 0] 25) (tot:=1) rfl rfl ⟨rfl,Yc _⟩ rfl
  (.cells rfl Zs (fun i x e=>by
   match i,e with
   |0,e=>cases e;exact⟨_,rfl,.nilS⟩))
 have p12:=p1.trans hinv p2;have p3:=Post.new (w':=((w.alloc (.cells #[.int .i64 0,.int .i64 0,.string .empty,.slice none 0 0] 24)).alloc (.cells #[.slice none 0 0] 25)).alloc (.cells #[.bool false] 4)) p12.inv (x:=.cells [.bool false]) (o:=.cells #[.bool false] 4) (tot:=1) rfl rfl ⟨rfl,Yc _⟩ rfl
  (.cells rfl Zs (fun i x e=>by
   match i,e with
   |0,e=>cases e;exact⟨_,rfl,.bool _⟩))
 have p123:=p12.trans hinv p3;refine .inl ⟨call46 _ w,calls_of_wp_defers func46 rfl ?_⟩;apply wp_seq;apply wp_region;simp[wpOps,go_sem,ntmps46];try left
 try left
 try left
 apply wp_seq;apply wp_region;simp[wpOps,go_sem];left;try left
 try left
 unfold readC at h;rw[func46]at h;refine wp_mono (h ?dl w.heap.size (fun _=>True) g0 ⟨[],0⟩ w _ _ _ ⟨hinv,hnx.symm,fun _ _=>trivial⟩ ⟨⟨?_,?_,?_⟩,?df,p123.weaken ?_⟩) ?_
 case df=>rfl
 ·exact hgl.mono (fun c a e=>e)
 ·show Array.size _=C0.nt;rw[hnt];simp
 ·intro t v e;have e:List.lookup t [(4,V.ptr 2 0),(3,V.ptr 1 0),(2,V.ptr 0 0),(0,arg)]=some v:=e;by_cases h4:t=4
  ·subst h4;have e:some (V.ptr 2 0)=some v:=e;cases e;have hd:(#[v0]++((((Array.replicate 82 undef).setIfInBounds 1 (Value.pointer (some { block:=w.heap.size,off:=0 }))).setIfInBounds 2 (Value.pointer (some { block:=w.heap.size+1,off:=0 }))).setIfInBounds 3 (Value.pointer (some { block:=w.heap.size+1+1,off:=0 }))).setIfInBounds 10 (Value.func (Fn.func 69) #[] #[Value.pointer (some { block:=w.heap.size,off:=0 }),Value.pointer (some { block:=w.heap.size+1,off:=0 }),Value.pointer (some { block:=w.heap.size+1+1,off:=0 })])).getD 4 undef=Value.pointer (some ⟨w.heap.size+1+1,0+0,none⟩):=by simp[Array.getElem_append]
   dsimp only;rw[hd];exact .ptr (T:=⟨w.heap.size+1+1,0,1⟩) (by simp[G.add,Hp.new])
  by_cases h3:t=3
  ·subst h3;have e:some (V.ptr 1 0)=some v:=e;cases e;have hd:(#[v0]++((((Array.replicate 82 undef).setIfInBounds 1 (Value.pointer (some { block:=w.heap.size,off:=0 }))).setIfInBounds 2 (Value.pointer (some { block:=w.heap.size+1,off:=0 }))).setIfInBounds 3 (Value.pointer (some { block:=w.heap.size+1+1,off:=0 }))).setIfInBounds 10 (Value.func (Fn.func 69) #[] #[Value.pointer (some { block:=w.heap.size,off:=0 }),Value.pointer (some { block:=w.heap.size+1,off:=0 }),Value.pointer (some { block:=w.heap.size+1+1,off:=0 })])).getD 3 undef=Value.pointer (some ⟨w.heap.size+1,0+0,none⟩):=by simp[Array.getElem_append]
   dsimp only;rw[hd];exact .ptr (T:=⟨w.heap.size+1,0,1⟩) (by simp[G.add,Hp.new])
  by_cases h2:t=2
  ·subst h2;have e:some (V.ptr 0 0)=some v:=e;cases e;have hd:(#[v0]++((((Array.replicate 82 undef).setIfInBounds 1 (Value.pointer (some { block:=w.heap.size,off:=0 }))).setIfInBounds 2 (Value.pointer (some { block:=w.heap.size+1,off:=0 }))).setIfInBounds 3 (Value.pointer (some { block:=w.heap.size+1+1,off:=0 }))).setIfInBounds 10 (Value.func (Fn.func 69) #[] #[Value.pointer (some { block:=w.heap.size,off:=0 }),Value.pointer (some { block:=w.heap.size+1,off:=0 }),Value.pointer (some { block:=w.heap.size+1+1,off:=0 })])).getD 2 undef=Value.pointer (some ⟨w.heap.size,0+0,none⟩):=by simp[Array.getElem_append]
   dsimp only;rw[hd];exact .ptr (T:=⟨w.heap.size,0,4⟩) (by simp[G.add,Hp.new])
  by_cases h0:t=0
  ·subst h0;have e:some arg=some v:=e;cases e;have hd:(#[v0]++((((Array.replicate 82 undef).setIfInBounds 1 (Value.pointer (some { block:=w.heap.size,off:=0 }))).setIfInBounds 2 (Value.pointer (some { block:=w.heap.size+1,off:=0 }))).setIfInBounds 3 (Value.pointer (some { block:=w.heap.size+1+1,off:=0 }))).setIfInBounds 10 (Value.func (Fn.func 69) #[] #[Value.pointer (some { block:=w.heap.size,off:=0 }),Value.pointer (some { block:=w.heap.size+1,off:=0 }),Value.pointer (some { block:=w.heap.size+1+1,off:=0 })])).getD 0 undef=v0:=by simp[Array.getElem_append]
   dsimp only;rw[hd];exact VRel.pure (g:=g) (fun c a e=>e) r0 hp
  exfalso;have e4:(t==4)=false:=by simpa using h4
  have e3:(t==3)=false:=by simpa using h3
  have e2:(t==2)=false:=by simpa using h2
  have e0:(t==0)=false:=by simpa using h0
  simp[YE,e4,e3,e2,e0]at e
 ·intro b hb;simp at hb
 rintro e a w' ⟨o,s,g1,⟨ho,hrp,hz⟩,h2,h3⟩;obtain rfl:fn=Tryz.f46:=by have:=func46;rw[hfn]at this;exact Yh this
 rcases ho with rfl|rfl<;>cases e<;>first|exact h2.elim|skip
 all_goals
  show Leaves _ _ _ _ _ _ _
  rw[h3.defers]
  refine leaves_cons (f:=69) (args:=#[Value.pointer (some { block:=w.heap.size,off:=0 }),Value.pointer (some { block:=w.heap.size+1,off:=0 }),Value.pointer (some { block:=w.heap.size+1+1,off:=0 })]) Zs (by simp[go_sem]) ?_
  refine(zoo _ _ _ w').mono ?_
  rintro e u' w'' ⟨rfl,rfl,rfl⟩
  obtain⟨vc,hrun,phi',vc',a1,a2,a3,a4⟩:=(h3.junk (.cells #[] 108)).ends hphi hW hrp hz
  exact⟨vc,hrun,phi',fun c a e=>(let ⟨b1,t,fr,b2⟩:=a1 c a e;⟨b1,t,fr.1,fr.2,b2⟩),a2,vc',a3,a4⟩
end Go.Proofs

namespace Go.Ab
def frzL(f:V→Option V):ZA→Option ZA
 |[]=>some []
 |x::r=>match f x with
  |some y=>(match frzL f r with|some l=>some (y::l)|none=>none)
  |none=>none
def frzV:Nat→Hp→V→Option V
 |0,_,_=>none
 |n+1,H,v=>
  match v with
  | .int k x=>some (.int k x)
  | .bool b=>some (.bool b)
  | .str s=>some (.str s)
  | .nilS=>some (.fs [] 0)
  | .sl b off len sz _=>
   match H.get b with
   |some (.cells cs)=>bif Nat.ble (off+len*sz) cs.length then(match frzL (frzV n H) ((cs.drop off).take (len*sz))with|some l=>some (.fs l len)|none=>none)else none
   |some (.ty _ cs)=>bif Nat.ble (off+len*sz) cs.length then(match frzL (frzV n H) ((cs.drop off).take (len*sz))with|some l=>some (.fs l len)|none=>none)else none
   |_=>none
  | .agg cs=>(match frzL (frzV n H) cs with|some l=>some (.agg l)|none=>none)
  | .tup cs=>(match frzL (frzV n H) cs with|some l=>some (.tup l)|none=>none)
  |_=>none
def zhr {H:Hp}{f:V→Option V}(hf:∀x y,f x=some y→Frz H x y):∀ {l l':ZA},frzL f l=some l'→l'.length=l.length∧∀(i:Nat)(x y:V),l[i]? =some x→l'[i]? =some y→Frz H x y
 |[],l',h=>by cases h;exact⟨rfl,fun i x y e=>by simp at e⟩
 |a::r,l',h=>by
  unfold frzL at h;split at h
  ·rename_i y hy;split at h
   ·rename_i l hl;cases h;obtain⟨h1,h2⟩:=zhr hf hl;refine⟨by simp[h1],fun i x z e e'=>?_⟩;match i with
    |0=>cases e;cases e';exact hf _ _ hy
    |i+1=>exact h2 i x z (by simpa using e) (by simpa using e')
   cases h
  cases h
def zer {H:Hp}:∀(n:Nat)(v v':V),frzV n H v=some v'→Frz H v v'
 |0,_,_,h=>by cases h
 |n+1,v,v',h=>by
  unfold frzV at h;split at h
  ·cases h;exact .pure (.int _ _)
  ·cases h;exact .pure (.bool _)
  ·cases h;exact .pure (.str _)
  ·cases h;exact .nil0
  ·rename_i b off len sz kc;split at h
   ·rename_i cs hg;cases hc:Nat.ble (off+len*sz) cs.length with
    |false=>rw[hc]at h;cases h
    |true=>
     rw[hc]at h;simp only[cond_true]at h;split at h
     ·rename_i l hl;cases h;have hle:=Yb2 hc;obtain⟨h1,h2⟩:=zhr (fun x y e=>zer n x y e) hl;exact .sl hg hle (by rw[h1];simp;omega) h2
     cases h
   ·rename_i t cs hg;cases hc:Nat.ble (off+len*sz) cs.length with
    |false=>rw[hc]at h;cases h
    |true=>
     rw[hc]at h;simp only[cond_true]at h;split at h
     ·rename_i l hl;cases h;have hle:=Yb2 hc;obtain⟨h1,h2⟩:=zhr (fun x y e=>zer n x y e) hl;exact .slT hg hle (by rw[h1];simp;omega) h2
     cases h
   cases h
  ·split at h
   ·rename_i l hl;cases h;obtain⟨h1,h2⟩:=zhr (fun x y e=>zer n x y e) hl;exact .agg h1 h2
   cases h
  ·split at h
   ·rename_i l hl;cases h;obtain⟨h1,h2⟩:=zhr (fun x y e=>zer n x y e) hl;exact .tup h1 h2
   cases h
  cases h
end Go.Ab

namespace Go.Proofs
open Go.Ab Go.Pl Go.Cnt
def exM:Mach:=⟨1,0,[48],[⟨[49],[⟨1,2,[48],0⟩]⟩]⟩
def exT:List Str:=[[97],[97,98]]
end Go.Proofs

namespace Go.Proofs
open Tryz Go.Ab Go.Pl Go.Cnt
def roB(l:ZL):Blk:=.ro (l.map zq)
def zlo {π:Nat→Nat}{N:Nat→Prop}(l:ZL):RnB π N (roB l) (roB l):=.ro (zB (zaj l))
def zuk {l l':ZL}(h:some (roB l)=some (roB l')):l=l':=by have h:=Yh h;unfold roB at h;exact zdV (by unfold bly;rw[Blk.ro.inj h])
def znn {π:Nat→Nat}{N:Nat→Prop}(l l':ZL):RnB π N (roB l) (roB l')↔l=l':=by
 constructor
 ·intro h;unfold roB at h;cases h with
  |ro h=>exact(zbg l l').1 (.ty h)
 rintro rfl;exact zlo l
def ldA_roB(l:ZL)(b off:Nat)(H:Hp)(h:off<l.length):ldA (some false) (some 1) (some (roB l)) b off H=⟨True,.int .u8 ((l.getD off 0).toNat:Nat),H,[b],[]⟩:=by unfold roB;rw[ziH,zby];simp[h,zq]
attribute [local go_sem] zbg znn
def rsumO_N(l:ZL)(hl:l.length≤100000000):NCall prog 44 [.sl 0 0 l.length 1 (some l.length)] [roB l] [] (.int .u32 (crcE l:Nat)) ⟨[(0,roB l)],1⟩:=by
 refine NCall.walk (rs:=[.tmp 2]) [0,2,3,4,5,9,20,25] [] 1 mixed (zh) (zg) call44 func44 rfl ntmps44 rfl Zk Zs Zs Zs ?_;simp(disch:=try exact Zq)only[go_sem];refine AXs.loop mixed (zh) (zg) (ι:=Nat×Nat) (fun i=>[(4,.int .i64 i.1),(3,.int .u32 (i.2:Nat)),(0,.sl 0 0 l.length 1 (some l.length))]) (fun _=>⟨[(0,roB l)],1⟩) (fun i=>i.1≤l.length∧i.2<4294967296∧i.2=crcR (l.take i.1) 4294967295) (fun i=>l.length-i.1) (0,4294967295) Zk ⟨Yk _,Zd,rfl⟩ (Sub.of [] rfl ?_ ?_ Zd (by
  intro b hb hw;match b,hb with
  |0,_=>rfl)) ?_
 ·simp only[go_sem]
 ·simp only[go_sem]
 rintro⟨i,c⟩ ⟨h1,hcl,hc0⟩;dsimp only at h1 hcl hc0 ⊢;by_cases hi:i<l.length
 ·have d1:decide ((i:Int)<l.length)=true:=Yf Zo;have hst:=zwQ l i 4294967295 hi;rw[←hc0]at hst;have hx:=(l.getD i 0).toNat_lt;have e1:IntKind.u32.wrap (((l.getD i 0).toNat:Nat):Int)=(((l.getD i 0).toNat:Nat):Int):=by rw[IntKind.wrap_u32'];omega
  have e2:=u32_xor_nat c (l.getD i 0).toNat hcl Zo;have hcx:c^^^(l.getD i 0).toNat<4294967296:=Nat.xor_lt_two_pow (n:=32) hcl Zo;generalize c^^^(l.getD i 0).toNat=C at*;simp(disch:=try exact Zq)only[go_sem,d1,ldA_roB,e1,e2];refine⟨⟨Zo,Zo⟩,?_⟩;refine AXs.loop mixed (zh) (zg) (ι:=Nat×Nat) (fun k=>[(5,.int .i64 k.1),(4,.int .i64 i),(3,.int .u32 (k.2:Nat)),(0,.sl 0 0 l.length 1 (some l.length))]) (fun _=>⟨[(0,roB l)],1⟩) (fun k=>k.1≤8∧k.2<4294967296∧crcK (8-k.1) k.2=crcK 8 C) (fun k=>8-k.1) (0,C) Zk ⟨Yk _,hcx,rfl⟩ (Sub.of [] rfl ?_ ?_ ?_ ?_) ?_
  ·simp only[go_sem]
  ·simp only[go_sem]
  ·decide
  ·intro b hb hw;match b,hb with
   |0,_=>rfl
  rintro⟨k,c⟩ ⟨g1,g2,g3⟩;dsimp only at g1 g2 g3 ⊢;by_cases hk:k<8
  ·have eA:=zmG c g2;have eD:(c:Int)/2^1=((c/2:Nat):Int):=Zo;have eX:=zmF (c/2) Zo;have ek:(k:Int)+1=((k+1:Nat):Int):=Zo;have dk:decide ((k:Int)<8)=true:=Yf Zo;have e8:crcK (8-(k+1)) (crcS c)=crcK 8 C:=by rw[←g3,show 8-k=(8-(k+1))+1 by omega];rfl
   have hlt:=zol g2;by_cases hb:c%2=1
   ·have d0:decide (((c%2:Nat):Int)=1)=true:=Yf Zo;rw[crcS,Yi hb]at e8 hlt;simp(disch:=try exact Zq)only[go_sem,dk,eA,eD,eX,d0,ek];exact zi (k+1,c/2^^^3988292384) ⟨by show k+1≤8;omega,hlt,e8⟩ (by show 8-(k+1)<8-k;omega) (Sub.of [] rfl Zg Zg Zd (by
     intro b hb hw;match b,hb with
     |0,_=>rfl))
   have d0:decide (((c%2:Nat):Int)=1)=false:=Yd Zo;rw[crcS,Ye hb]at e8 hlt;simp(disch:=try exact Zq)only[go_sem,dk,eA,eD,eX,d0,ek];exact zi (k+1,c/2) ⟨by show k+1≤8;omega,hlt,e8⟩ (by show 8-(k+1)<8-k;omega) (Sub.of [] rfl Zg Zg Zd (by
    intro b hb hw;match b,hb with
    |0,_=>rfl))
  have dk:decide ((k:Int)<8)=false:=Yd Zo;have e9:c=crcK 8 C:=by rw[←g3,show 8-k=0 by omega];rfl
  have ei:(i:Int)+1=((i+1:Nat):Int):=Zo;simp(disch:=try exact Zq)only[go_sem,dk];refine AXa.go mixed (zh) (zg) Zk ?_;simp(disch:=try exact Zq)only[go_sem,ei];exact zi (i+1,c) ⟨hi,g2,by show c=_;rw[hst,e9]⟩ (by show l.length-(i+1)<l.length-i;omega) (Sub.of [] rfl Zg Zg Zd (by
   intro b hb hw;match b,hb with
   |0,_=>rfl))
 obtain rfl:i=l.length:=Zo;have d1:decide ((l.length:Int)<l.length)=false:=Yd Zo;rw[Ym,zwR]at hc0;have eX:Go.bits .xor .u32 4294967295 (c:Int)=((crcE l:Nat):Int):=by rw[show (4294967295:Int)=((4294967295:Nat):Int)from rfl,u32_xor_nat _ _ Zd hcl,hc0];rfl
 have eM:(if IntKind.u32.signed=true then(-1:Int)else IntKind.u32.max)=4294967295:=Zd;simp(disch:=try exact Zq)only[go_sem,d1];refine AXa.go mixed (zh) (zg) Zk ?_;simp(disch:=try exact Zq)only[go_sem,eM,eX];exact⟨[(2,.int .u32 (crcE l:Nat))],Sub.of [] rfl Zg Zg Zd (by
  intro b hb hw;match b,hb with
  |0,_=>rfl),rfl⟩
def SmO(args:ZA)(H:Hp)(r:AR):Prop:=∃c l,args=[.sl c 0 l.length 1 (some l.length)]∧(∀b x,H.get b=some x→b<H.next)∧l.length≤100000000∧H.get c=some (roB l)∧r=⟨True,.int .u32 (crcE l:Nat),H,[c],[]⟩
def smO_ok:∀args H r,SmO args H r→HCall prog 44 args H r:=by
 rintro args H r ⟨c,l,rfl,hk,hl,hc,rfl⟩;refine HCall.none (F:=[roB l]) (rsumO_N l hl) (.int _ _) [c] _ H rfl Zs (slArgsP c l.length (some l.length) (fun x hx=>absurd hx (YaM))) (fun i x hx=>?_) (fun i x hx=>?_) hk
 ·match i with
  |0=>cases hx;exact⟨c,rfl,hc,zlo l⟩
  |i+1=>simp at hx
 match i with
 |0=>cases hx;exact fun _ _=>zlo l
 |i+1=>simp at hx
def smO_eq(c n:Nat)(l:ZL)(bs:ZH)(nx:Nat)(hc:zG bs c=some (roB l))(hn:n=l.length)(hl:l.length≤100000000)(hk:((keysB bs).all fun b=>decide (b<nx))=true):conD SmO [.sl c 0 n 1 (some n)] ⟨bs,nx⟩=some ⟨True,.int .u32 (crcE l:Nat),⟨bs,nx⟩,[c],[]⟩:=by subst hn;have hR:SmO [.sl c 0 l.length 1 (some l.length)] ⟨bs,nx⟩ ⟨True,.int .u32 (crcE l:Nat),⟨bs,nx⟩,[c],[]⟩:=⟨c,l,rfl,zaZ hk,hl,(zC bs c).trans hc,rfl⟩;refine zan hR ?_;rintro r' ⟨c',l',e,_,_,hc',rfl⟩;simp only[Yt,V.sl.injEq,Yag,Yad]at e;obtain⟨rfl,_⟩:=e;rw[show (⟨bs,nx⟩:Hp).get c=some (roB l)from(zC bs c).trans hc]at hc';rw[zuk hc']
def apM_roB(l ls:ZL)(b n m k:Nat)(R:ZN)(H:Hp)(hn:n=l.length)(hm:m=ls.length)(hk:k=l.length)(h0:0<m)(hl:n+m≤100000000000):apM (some (roB l)) (true,5) 1 1 true b 0 n 1 k (ls.map zq) m R H=⟨True,.sl H.next 0 (n+m) 1 none,H.new (bly (l++ls)),b::R,[]⟩:=by
 subst hn hm hk;unfold roB bly;rw[zhI _ _ _ _ _ _ _ _ _ _ _ _ _ Zo];have e1:((l.map zq).drop 0).take (l.length*1)=l.map zq:=by rw[YW,Yas];exact Yp Zs
 rw[e1,←Yax];congr 1;refine eq_true ⟨rfl,Zd,rfl,Zs,Zo,Zo,?_⟩;rw[List.all_map,Yl];intro x hx;rfl
def rsealO_N(l:ZL)(h0:l≠[])(hl:l.length≤90000000):NCall prog 10 [.sl 0 0 l.length 1 (some l.length)] [roB l] [] (.sl 1 0 (l++sumB l).length 1 none) ⟨[(1,bly (l++sumB l)),(0,roB l)],2⟩:=by
 have hΔ:zay prog (zaQ 44 (conD SmO) noΔ):=zK (zT smO_ok) zg;refine NCall.walk (rs:=[.tmp 2]) [0,2,3] [] 1 mixed (zh) (hΔ) call10 func10 rfl ntmps10 rfl Zk Zs Zs Zs ?_;have w0:IntKind.u8.wrap ((crcE l:Nat):Int)=((crcE l:Nat):Int)%256:=IntKind.wrap_u8' _;have w1:IntKind.u8.wrap (((crcE l:Nat):Int)/2^8)=((crcE l/256:Nat):Int)%256:=by rw[IntKind.wrap_u8'];omega
 have w2:IntKind.u8.wrap (((crcE l:Nat):Int)/2^16)=((crcE l/65536:Nat):Int)%256:=by rw[IntKind.wrap_u8'];omega
 have w3:IntKind.u8.wrap (((crcE l:Nat):Int)/2^24)=((crcE l/16777216:Nat):Int)%256:=by rw[IntKind.wrap_u8'];omega
 have eB:[V.int .u8 (((crcE l/16777216:Nat):Int)%256),V.int .u8 (((crcE l/65536:Nat):Int)%256),V.int .u8 (((crcE l/256:Nat):Int)%256),V.int .u8 (((crcE l:Nat):Int)%256)]=(sumB l).map zq:=by rw[byte_of,byte_of,byte_of,byte_of];rfl
 have e4:(l++sumB l).length=l.length+4:=by rw[Yg];rfl
 have eO:((sumB l).map zq).all V.one=true:=by rw[List.all_map,Yl];intro x _;rfl
 have eL:((sumB l).map zq).length=4:=rfl;have eL2:(sumB l).length=4:=rfl;have eT:((sumB l).map zq).take 4=(sumB l).map zq:=rfl;have eA:=fun H R=>apM_roB l (sumB l) 0 l.length 4 l.length R H rfl rfl rfl Zd Zo;simp(disch:=try exact Zp)only[go_sem,smO_eq,w0,w1,w2,w3,eB,eO,eL,eL2,eT,eA];rw[e4];exact⟨[(2,.sl 1 0 (l.length+4) 1 none)],Sub.of [(1,2)] rfl (by simp(disch:=try exact Zp)only[go_sem]) (by simp(disch:=try exact Zp)only[go_sem]) Zd (by
  intro b hb hw;match b,hb with
  |0,_=>rfl),rfl⟩
def SealO(args:ZA)(H:Hp)(r:AR):Prop:=∃c l,args=[.sl c 0 l.length 1 (some l.length)]∧(∀b x,H.get b=some x→b<H.next)∧l≠[]∧l.length≤90000000∧H.get c=some (roB l)∧r=⟨True,.sl H.next 0 (l++sumB l).length 1 none,H.new (bly (l++sumB l)),[c],[]⟩
def sealO_ok:∀args H r,SealO args H r→HCall prog 10 args H r:=by
 rintro args H r ⟨c,l,rfl,hk,h0,hl,hc,rfl⟩;have tc:zu [c] H.next c=0:=by unfold zu;rw[Yi (hk c _ hc)];simp
 have tn:zu [c] H.next H.next=1:=by unfold zu;rw[Ye Zo];simp
 refine HCall.of (rsealO_N l h0 hl) [c] _ (.sl H.next 0 (l++sumB l).length 1 none) H (H.new _) rfl Zs ⟨rfl,fun i u v hu hv=>?_⟩ (fun i x hx=>?_) ?_ (by show H.next+1+1=H.next+2;omega) (fun b' x' hx'=>?_) (fun b' hb' hw=>?_)
 ·match i with
  |0=>cases hu;cases hv;exact .sl (π:=fun i=>[c].getD i 0) (b:=0) (YaA.2 rfl) (.inr rfl)
  |i+1=>simp at hu
 ·match i with
  |0=>cases hx;exact⟨c,_,rfl,hc,zlo l⟩
  |i+1=>simp at hx
 ·have:=Rn.sl (π:=zu [c] H.next) (N:=fun b'=>b'∈[c]∨(H.next≤b'∧b'<(H.new (bly (l++sumB l))).next)) (b:=H.next) (off:=0) (len:=(l++sumB l).length) (sz:=1) (kc:=none) (kc':=none) (.inr ⟨Yc _,YD _⟩) (.inr rfl);rwa [tn]at this
 ·rw[Xe]at hx';split at hx'
  ·rename_i he;subst he;cases hx';refine .inr ⟨.inr ⟨Yc _,YD _⟩,bly (l++sumB l),?_,zbG _⟩;rw[tn];rfl
  by_cases h2:b'=c
  ·subst h2;rw[hc]at hx';cases hx';refine .inr ⟨.inl Zs,roB l,?_,zlo l⟩;rw[tc];rfl
  exact .inl ⟨hk b' _ hx',by simp[h2],hx'⟩
 rw[Xe,Ye Zo]
def sealO_eq(c n:Nat)(l:ZL)(bs:ZH)(nx:Nat)(hc:zG bs c=some (roB l))(hn:n=l.length)(h0:l≠[])(hl:l.length≤90000000)(hk:((keysB bs).all fun b=>decide (b<nx))=true):conD SealO [.sl c 0 n 1 (some n)] ⟨bs,nx⟩=some ⟨True,.sl nx 0 (l++sumB l).length 1 none,⟨(nx,bly (l++sumB l))::bs,nx+1⟩,[c],[]⟩:=by subst hn;have hR:SealO [.sl c 0 l.length 1 (some l.length)] ⟨bs,nx⟩ ⟨True,.sl nx 0 (l++sumB l).length 1 none,⟨(nx,bly (l++sumB l))::bs,nx+1⟩,[c],[]⟩:=⟨c,l,rfl,zaZ hk,h0,hl,(zC bs c).trans hc,rfl⟩;refine zan hR ?_;rintro r' ⟨c',l',e,_,_,_,hc',rfl⟩;simp only[Yt,V.sl.injEq,Yag,Yad]at e;obtain⟨rfl,_⟩:=e;rw[show (⟨bs,nx⟩:Hp).get c=some (roB l)from(zC bs c).trans hc]at hc';rw[zuk hc'];rfl
def known:ZL:=[65,66,71,49,1,2,2,1,0,0,1,9,0,1,97,1,1,98,0,1,48,0,1,49,14,96]
def zx6(bs:ZH)(nx:Nat):zS prog 28 26 [(0,.int .u8 65),(1,.int .u8 66),(2,.int .u8 71),(3,.int .u8 49),(4,.int .u8 1),(5,.int .u8 2),(6,.int .u8 2),(7,.int .u8 1),(8,.int .u8 0),(9,.int .u8 0),(10,.int .u8 1),(11,.int .u8 9),(12,.int .u8 0),(13,.int .u8 1),(14,.int .u8 97),(15,.int .u8 1),(16,.int .u8 1),(17,.int .u8 98),(18,.int .u8 0),(19,.int .u8 1),(20,.int .u8 48),(21,.int .u8 0),(22,.int .u8 1),(23,.int .u8 49),(24,.int .u8 14),(25,.int .u8 96)] ⟨bs,nx⟩=⟨True,.sl nx 0 26 1 (some 26),⟨(nx,.cells (known.map zq))::bs,nx+1⟩,[],[]⟩:=by have h:zS prog 28 26 [(0,.int .u8 65),(1,.int .u8 66),(2,.int .u8 71),(3,.int .u8 49),(4,.int .u8 1),(5,.int .u8 2),(6,.int .u8 2),(7,.int .u8 1),(8,.int .u8 0),(9,.int .u8 0),(10,.int .u8 1),(11,.int .u8 9),(12,.int .u8 0),(13,.int .u8 1),(14,.int .u8 97),(15,.int .u8 1),(16,.int .u8 1),(17,.int .u8 98),(18,.int .u8 0),(19,.int .u8 1),(20,.int .u8 48),(21,.int .u8 0),(22,.int .u8 1),(23,.int .u8 49),(24,.int .u8 14),(25,.int .u8 96)] ⟨bs,nx⟩=⟨zt (.int .u8 0)=true∧(V.int .u8 0).cellsV.length=1∧26*1≤16777216,.sl nx 0 26 1 (some 26),⟨(nx,.cells (known.map zq))::bs,nx+1⟩,[],[]⟩:=Zk;have e:(zt (.int .u8 0)=true∧(V.int .u8 0).cellsV.length=1∧26*1≤16777216)=True:=eq_true ⟨rfl,rfl,Zd⟩;rw[h,e]
def zsD:PCall prog 20 [] (.ret (.tup [zad exM,.fs (strs exT) 2])):=by refine Xa (rs:=[.cell 0 24,.tmp 1]) [0,1] [] mixed (zh) (zg) call20 func20 rfl ntmps20 rfl ?_;simp(disch:=try exact Zq)only[go_sem];exact⟨zer 20 _ _ rfl,zer 20 _ _ rfl⟩
def zcb(x:UInt8):Pure (zq x)↔True:=⟨fun _=>trivial,fun _=>.int _ _⟩
def equal_ok(a b:ZL):PCall prog 45 [.fs (a.map zq) a.length,.fs (b.map zq) b.length] (.ret (.bool (decide (a=b)))):=by have ha:=fun H=>zd6 a a.length H rfl;have hb:=fun H=>zd6 b b.length H rfl;refine PCall.walk (rs:=[.tmp 4]) [0,1,4] [] mixed (zh) (zg) call45 func45 rfl ntmps45 rfl Zk Zs (by simp[push_cast,zcb]) ?_;simp(disch:=try exact Zq)only[go_sem,ha,hb]
def zaO(l:ZL):(∀x∈l.map zq,Pure x)↔True:=⟨fun _=>trivial,fun _=>zaj l⟩
attribute [local go_sem] zaO zml zwO ziR zwN zcb
def bytes_at(l:ZL)(i:Nat)(h:i<l.length):(l.map zq).drop i=.int .u8 ((l.getD i 0).toNat:Nat)::(l.map zq).drop (i+1):=by rw[Yaw (by simpa using h)];simp[h,zq]
def zsL(l:ZL)(hl:l.length≤100000000):PCall prog 33 [.fs (l.map zq) l.length] (.ret (.fs ((sumB l).map zq) 4)):=by
 refine PCall.walk (rs:=[.tmp 2]) [0,2,3,4,6,8,9,10,11] [] mixed (zf zfG zh) (zg) call33 func33 rfl ntmps33 rfl Zk Zs (by simp[push_cast,zcb]) ?_;have hz:=zko 0 (crow 0) (zbB (Yk _));have hl0:=zbB (Yk 256);have hl2:=zbB (Yc 256);simp(disch:=try exact Zq)only[go_sem,zxk,hz,hl0,hl2];refine⟨zkp 256,AXs.loop mixed (zf zfG zh) (zg) (ι:=Nat) (fun i=>[(10,.int .i64 i),(9,.int .i64 l.length),(8,.fs (l.map zq) l.length),(4,.int .u32 (crcU (l.take i) 4294967295:Nat)),(3,.ptr 0 0)]) (fun _=>⟨[(0,.cells (crow 256))],1⟩) (fun i=>i≤l.length) (fun i=>l.length-i) 0 Zk (Yk _) (Xb [] rfl rfl ?_ ?_) ?_⟩
 ·simp only[go_sem];rfl
 ·simp only[go_sem]
 intro i hi0;obtain⟨c,hc0⟩:∃c,c=crcU (l.take i) 4294967295:=⟨_,rfl⟩;have hcl:c<4294967296:=hc0▸zwP _ _ Zd;rw[←hc0];simp(disch:=try exact Zq)only[go_sem];refine Xc (fun hc=>?_) (fun hc=>?_)
 ·have hi:i<l.length:=Zo;have hst:=zmm l i 4294967295 hi;rw[←hc0]at hst;have hx:=(l.getD i 0).toNat_lt;have atb:=bytes_at l i hi;have e1:IntKind.u8.wrap (c:Int)=((c%256:Nat):Int):=by rw[IntKind.wrap_u8'];omega
  have e2:=xor_u8 (c%256) (l.getD i 0).toNat Zo hx;have h1:(c%256)^^^(l.getD i 0).toNat<2^8:=Nat.xor_lt_two_pow (n:=8) Zo hx;have e3:=zp8 (i:=256) (k:=(c%256)^^^(l.getD i 0).toNat) h1 (Yc _);have e4:(c:Int)/2^8=((c/256:Nat):Int):=Zo;have h2:crcT ((c%256)^^^(l.getD i 0).toNat)<4294967296:=zoj Zo;have e5:=u32_xor_nat (crcT ((c%256)^^^(l.getD i 0).toNat)) (c/256) h2 Zo;have ei:(i:Int)+1=((i+1:Nat):Int):=Zo;simp(disch:=try exact Zq)only[go_sem,atb,e1,e2,e3,e4,e5,ei,hl2];rw[←hst];exact⟨⟨Zo,Zo⟩,by rw[Yan];omega,⟨Zo,Zo⟩,h1,zi (i+1) hi (by show l.length-(i+1)<l.length-i;omega) (Xb [] rfl rfl Zg Zg)⟩
 obtain rfl:i=l.length:=Zo;rw[Ym]at hc0;have eX:Go.bits .xor .u32 4294967295 (c:Int)=((crcE l:Nat):Int):=by rw[show (4294967295:Int)=((4294967295:Nat):Int)from rfl,u32_xor_nat _ _ Zd hcl,hc0];rfl
 have w0:IntKind.u8.wrap ((crcE l:Nat):Int)=((crcE l:Nat):Int)%256:=IntKind.wrap_u8' _;have w1:IntKind.u8.wrap (((crcE l:Nat):Int)/2^8)=((crcE l/256:Nat):Int)%256:=by rw[IntKind.wrap_u8'];omega
 have w2:IntKind.u8.wrap (((crcE l:Nat):Int)/2^16)=((crcE l/65536:Nat):Int)%256:=by rw[IntKind.wrap_u8'];omega
 have w3:IntKind.u8.wrap (((crcE l:Nat):Int)/2^24)=((crcE l/16777216:Nat):Int)%256:=by rw[IntKind.wrap_u8'];omega
 simp(disch:=try exact Zq)only[go_sem];refine AXa.go mixed (zf zfG zh) (zg) Zk ?_;have eM:(if IntKind.u32.signed=true then(-1:Int)else IntKind.u32.max)=4294967295:=Zd;have eB:(sumB l).map zq=[V.int .u8 (((crcE l/16777216:Nat):Int)%256),V.int .u8 (((crcE l/65536:Nat):Int)%256),V.int .u8 (((crcE l/256:Nat):Int)%256),V.int .u8 (((crcE l:Nat):Int)%256)]:=by rw[byte_of,byte_of,byte_of,byte_of];rfl
 rw[eB];simp(disch:=try exact Zq)only[go_sem,eM,eX,w0,w1,w2,w3];exact Xr (cs:=[V.int .u8 (((crcE l/16777216:Nat):Int)%256),V.int .u8 (((crcE l/65536:Nat):Int)%256),V.int .u8 (((crcE l/256:Nat):Int)%256),V.int .u8 (((crcE l:Nat):Int)%256)]) rfl Zs Zs (by simp[zaz])
def cSumP:ZV:=zL (fun l:ZL=>[.fs (l.map zq) l.length]) (fun l=>l.length≤100000000) fun l=>.ret (.fs ((sumB l).map zq) 4)
def zd7 {x y:ZL}(h:x.map zq=y.map zq):x=y:=zdV (by unfold bly;rw[h])
def cSumP_eq(l:ZL)(n:Nat)(hn:n=l.length)(h:l.length≤100000000):cSumP [.fs (l.map zq) n]=some (.ret (.fs ((sumB l).map zq) 4)):=by subst hn;exact zo (pat:=fun l:ZL=>[V.fs (l.map zq) l.length]) (fun x y h=>by simp only[Yt,V.fs.injEq,Yad]at h;exact zd7 h.1) l h
def cSumP_ok:ZC cSumP 33:=zn zsL
def cEql:ZV:=zL (fun p:ZL×ZL=>[.fs (p.1.map zq) p.1.length,.fs (p.2.map zq) p.2.length]) (fun _=>True) fun p=>.ret (.bool (decide (p.1=p.2)))
def zxS(a b:ZL)(n m:Nat)(hn:n=a.length)(hm:m=b.length):cEql [.fs (a.map zq) n,.fs (b.map zq) m]=some (.ret (.bool (decide (a=b)))):=by subst hn hm;exact zo (pat:=fun p:ZL×ZL=>[V.fs (p.1.map zq) p.1.length,V.fs (p.2.map zq) p.2.length]) (fun x y h=>by simp only[Yt,V.fs.injEq,Yad]at h;exact YaC (zd7 h.1.1) (zd7 h.2.1)) (a,b) trivial
def cEql_ok:ZC cEql 45:=zn fun p _=>equal_ok p.1 p.2
def cRdX(a v:V):ZV:=zL (fun _:Unit=>[a]) (fun _=>True) fun _=>.ret v
def cRdX_eq(a v:V):cRdX a v [a]=some (.ret v):=zo (pat:=fun _:Unit=>[a]) (fun _ _ _=>rfl) () trivial
def cRdX_ok {a v:V}(h:PCall prog 46 [a] (.ret v)):∀args r,cRdX a v args=some r→PCall prog 46 args r:=zn fun _ _=>h
def zk0(l:ZL)(h:l.length<9):PCall prog 11 [.fs (l.map zq) l.length] (.ret (.tup [zad ⟨0,0,[],[]⟩,.fs [] 0,.int .i64 10])):=by have d0:decide ((l.length:Int)<9)=true:=Yf Zo;refine PCall.walk (rs:=[.cell 2 24,.tmp 3,.tmp 4]) [0,2,3,4,5,6,7,8,11,21,36,62] [] mixed (zh) (zg) call11 func11 rfl ntmps11 rfl Zk Zs (by simp[push_cast,zcb]) ?_;simp(disch:=try exact Zq)only[go_sem,d0];exact zer 20 _ _ rfl
def zgu(l:ZL)(m:Mach)(t:List Str)(h9:9≤l.length)(hb:l.length≤1048576)(hmag:l.take 4=[65,66,71,49])(hsum:sumB (l.take (l.length-4))=l.drop (l.length-4)) (hrd:PCall prog 46 [.fs (((l.take (l.length-4)).drop 4).map zq) (l.length-8)] (.ret (.tup [zad m,.fs (strs t) t.length,.bool true]))) (hpk:PackOK m t) (hp:zeS m t=(l,0)):PCall prog 11 [.fs (l.map zq) l.length] (.ret (.tup [zad m,.fs (strs t) t.length,.int .i64 0])):=by
 obtain⟨n,hn⟩:∃n,l.length=n+4:=⟨l.length-4,Zo⟩;have hn4:l.length-4=n:=Zo;have hn8:l.length-8=n-4:=Zo;rw[hn4]at hsum hrd;rw[hn8]at hrd;have hΓ:=zf cSumP_ok (zf cEql_ok (zf (cRdX_ok hrd) (zf ze8 zh)));have d0:decide ((l.length:Int)<9)=false:=Yd Zo;have d1:decide ((1048576:Int)<l.length)=false:=Yd Zo;obtain⟨M4,hM4⟩:∃M4:ZL,M4=[65,66,71,49]:=⟨_,rfl⟩;have t4:(l.map zq).take 4=M4.map zq:=by rw[←List.map_take,hmag,hM4]
 have c4:=fun H=>zd6 M4 4 H (by rw[hM4];rfl);have dM:decide (M4=[65,66,71,49])=true:=Yf hM4;have en:(l.length:Int)-4=(n:Int):=Zo;have en2:(((n+4:Nat):Int)-4)=(n:Int):=Zo;obtain⟨A,hA⟩:∃A,l.take n=A:=⟨_,rfl⟩;obtain⟨B,hB⟩:∃B,l.drop n=B:=⟨_,rfl⟩;rw[hA,hB]at hsum;have hAl:A.length=n:=by rw[←hA,Y0];omega
 have hBl:B.length=4:=by rw[←hB,Yai];omega
 have tA:(l.map zq).take n=A.map zq:=by rw[←List.map_take,hA]
 have tB:(l.map zq).drop n=B.map zq:=by rw[←Yb5,hB]
 have tD:(A.map zq).drop 4=(A.drop 4).map zq:=by rw[Yb5]
 have tL:(l.map zq).take l.length=l.map zq:=Yp Zs;have tL2:(A.map zq).take n=A.map zq:=Yp (by simp[hAl]);have s1:=cSumP_eq A n hAl.symm Zo;have s2:=zxS (sumB A) B 4 4 rfl hBl.symm;rw[Yf hsum]at s2;have s3:=cRdX_eq (.fs (((l.take n).drop 4).map zq) (n-4)) (.tup [zad m,.fs (strs t) t.length,.bool true]);rw[hA]at s3;rw[hA]at hΓ;have s4:=zkw m t hpk;rw[hp]at s4;have s5:=zxS l l l.length l.length rfl rfl;rw[Yf rfl]at s5;unfold byR at s4;dsimp only at s4;have hM:zad m=.agg [.int .i64 m.k,.int .i64 m.s,.str m.l,.fs (stas m.q) m.q.length]:=rfl;rw[hM]at s3 s4 hΓ ⊢;refine PCall.walk (rs:=[.cell 2 24,.tmp 3,.tmp 4]) [0,2,3,4,5,6,7,8,11,21,36,62] [] mixed (hΓ) (zg) call11 func11 rfl ntmps11 rfl Zk Zs (by simp[push_cast,zcb]) ?_;have eLn:l.length-n=4:=Zo;simp(disch:=try exact Zq)only[go_sem,d0,d1,t4,c4,dM,en,eLn,tA,tB,tL,tL2,tD,s1,s2,s3,s4,s5];exact⟨⟨Zo,Zs⟩,⟨Zo,Zo,Zs⟩,⟨Zo,Zo,Zo,Zs⟩,⟨Zo,Zo,by simp[hAl]⟩,.pure (.agg (mach4 _ _ _ _))⟩
def cOne(a:ZA)(v:V):ZV:=zL (fun _:Unit=>a) (fun _=>True) fun _=>.ret v
def zdj(a:ZA)(v:V):cOne a v a=some (.ret v):=zo (pat:=fun _:Unit=>a) (fun _ _ _=>rfl) () trivial
def zdi {f:FuncId}{a:ZA}{v:V}(h:PCall prog f a (.ret v)):∀args r,cOne a v args=some r→PCall prog f args r:=zn fun _ _=>h
def zkr(l:ZL){a b:V}{e:Int}(h:PCall prog 11 [.fs (l.map zq) l.length] (.ret (.tup [a,b,.int .i64 e]))):PCall prog 13 [.fs (l.map zq) l.length] (.ret (.int .i64 e)):=by have h1:=zdj [.fs (l.map zq) l.length] (.tup [a,b,.int .i64 e]);refine PCall.walk (rs:=[.tmp 2]) [0,2] [] mixed (zf (zdi h) zh) (zg) call13 func13 rfl ntmps13 rfl Zk Zs (by simp[push_cast,zcb]) ?_;simp(disch:=try exact Zq)only[go_sem,h1]
end Go.Proofs
