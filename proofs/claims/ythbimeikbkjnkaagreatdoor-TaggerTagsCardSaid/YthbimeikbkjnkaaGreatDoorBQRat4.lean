/- rat.written: a computation's text, or ErrLong if it panics with tooLong. -/
import Derived.Test.YthbimeikbkjnkaaGreatDoorBF3c
set_option linter.all false
namespace Go.Proofs
open Go.Ab Go.Pl
theorem zAa(w:World):(Instr.typeAssert (.iface 182 (.agg #[])) 20 182 true).run Tryz.prog w=.ok (.tuple #[.agg #[],.bool true]) w:=by
 have h1:Tryz.prog.underlying 182=some (.struct #[]):=by kernel_rfl
 simp [Instr.typeAssert,run_underlying h1]
abbrev longV:V:=.ifc 182 (.agg [])
abbrev longW:Value:=.iface 182 (.agg #[])
set_option maxRecDepth 100000 in
theorem ztM(n:Nat)(w:World)(h1:w.heap[n]? =some (.cells #[.string .empty] 9 (0,0)))(h2:w.heap[n+1]? =some (.cells #[.int .i64 0] 27 (0,0))):
 CallsD Tryz.prog 177 #[.pointer (some ⟨n,0,none⟩),.pointer (some ⟨n+1,0,none⟩)] (.panicking [{ v:=longW,recovered:=false }]) w
  fun e u' w'=>e=.returned (.tuple #[])∧u'=.panicking [{ v:=longW,recovered:=true }]∧w'=(((w.alloc (.cells #[] 182)).setCell ⟨n,0,none⟩ (.string .empty)).setCell ⟨n+1,0,none⟩ (.int .i64 2)):=by
 refine callsD_of_wpS Tryz.func177 rfl fun c₀ cs hu=>?_
 apply wpS_seq
 apply wpS_region
 simp [wpOpsS,go_sem,recoverD,hu,Tryz.ntmps177,Exit.thenS,zAa]
 have hlt:n+1<w.heap.size:=(Array.getElem?_eq_some_iff.1 h2).1
 have a1:(w.alloc (.cells #[] 182)).heap[n]? =some (.cells #[.string .empty] 9 (0,0)):=by show (w.heap.push _)[n]? =_;rw [Array.getElem?_push_lt (by omega), ←h1,Array.getElem?_eq_getElem]
 have a2:(w.alloc (.cells #[] 182)).heap[n+1]? =some (.cells #[.int .i64 0] 27 (0,0)):=by show (w.heap.push _)[n+1]? =_;rw [Array.getElem?_push_lt hlt, ←h2,Array.getElem?_eq_getElem]
 generalize w.alloc (.cells #[] 182)=W at a1 a2 ⊢
 have c1:W.cell? ⟨n,0,none⟩=some (.string .empty):=by simp [World.cell?,a1]
 have f1:W.frozen? ⟨n,0,none⟩=false:=by simp [World.frozen?,a1]
 have c2:W.cell? ⟨n+1,0,none⟩=some (.int .i64 0):=by simp [World.cell?,a2]
 have f2:W.frozen? ⟨n+1,0,none⟩=false:=by simp [World.frozen?,a2]
 apply wpS_seq
 apply wpS_region
 simp [wpOpsS,go_sem,Exit.thenS]
 refine wpS_cond (t:=true) (by simp [Act.eval,Array.replicate]) ?_
 simp only [if_true]
 apply wpS_region
 simp [wpOpsS,go_sem,Exit.thenS,Act.eval,c1,f1,c2,f2]
 refine⟨rfl,.panicking [{ v:=longW,recovered:=true }],rfl,.tuple #[],by simp [results,Tryz.results177],rfl,rfl,rfl⟩
set_option maxRecDepth 100000 in
theorem zhY(w:World)(fid:FuncId)(caps:Array Value){R1:World→Prop}{R:Ending→World→Prop}
 (h1:GoCall Tryz.prog fid caps ((w.alloc (.cells #[.string .empty] 9)).alloc (.cells #[.int .i64 0] 27)) fun e w'=>e=.panicked [{ v:=longW,recovered:=false }]∧R1 w')
 (h3:∀ w',R1 w'→w'.heap[w.heap.size]? =some (.cells #[.string .empty] 9 (0,0))∧w'.heap[w.heap.size+1]? =some (.cells #[.int .i64 0] 27 (0,0))∧
  R (.returned (.tuple #[.string .empty,.int .i64 2])) (((w'.alloc (.cells #[] 182)).setCell ⟨w.heap.size,0,none⟩ (.string .empty)).setCell ⟨w.heap.size+1,0,none⟩ (.int .i64 2))):
 Calls Tryz.prog 146 #[.func (.func fid) #[] caps] w R:=by
 have hmf:∀(fn:Fn) (first cap:Array Value) (w:World),(Instr.makeFunc fn first cap).run Tryz.prog w=.ok (.func fn first cap) w:=fun _ _ _ _=>rfl
 go_enter_defers Tryz.func146,Tryz.ntmps146
 go_wp2
 refine zhV h1 ?_
 rintro e w1 ⟨rfl,hR1⟩
 obtain⟨hb1,hb2,hR⟩:=h3 w1 hR1
 refine leaves_cons (f:=177) (args:=#[.pointer (some ⟨w.heap.size,0,none⟩),.pointer (some ⟨w.heap.size+1,0,none⟩)]) (by simp) (by simp [go_sem]) ?_
 refine(ztM w.heap.size w1 hb1 hb2).mono ?_
 rintro e u' w'' ⟨rfl,rfl,rfl⟩
 have hlt:w.heap.size+1<w1.heap.size:=(Array.getElem?_eq_some_iff.1 hb2).1
 have a1:(w1.alloc (.cells #[] 182)).heap[w.heap.size]? =some (.cells #[.string .empty] 9 (0,0)):=by show (w1.heap.push _)[w.heap.size]? =_;rw [Array.getElem?_push_lt (by omega), ←hb1,Array.getElem?_eq_getElem]
 have a2:(w1.alloc (.cells #[] 182)).heap[w.heap.size+1]? =some (.cells #[.int .i64 0] 27 (0,0)):=by show (w1.heap.push _)[w.heap.size+1]? =_;rw [Array.getElem?_push_lt hlt, ←hb2,Array.getElem?_eq_getElem]
 generalize w1.alloc (.cells #[] 182)=W at a1 a2 hR ⊢
 have e1:((W.setCell ⟨w.heap.size,0,none⟩ (.string .empty)).setCell ⟨w.heap.size+1,0,none⟩ (.int .i64 2)).cell? ⟨w.heap.size,0,none⟩=some (.string .empty):=by simp [World.cell?,World.setCell,Array.getElem?_modify,a1]
 have e2:((W.setCell ⟨w.heap.size,0,none⟩ (.string .empty)).setCell ⟨w.heap.size+1,0,none⟩ (.int .i64 2)).cell? ⟨w.heap.size+1,0,none⟩=some (.int .i64 2):=by simp [World.cell?,World.setCell,Array.getElem?_modify,a2]
 simp [Leaves,settle,results,Tryz.results146,go_sem,e1,e2]
 exact hR
theorem more_phi {g:G}{phi':Nat→Option (Array Value)}{w2 w':World}{B:Nat}(hb:Bel B w2 w')(h0:∀ c arr,g.phi c=some arr→c<B∧∃ t fr,w2.heap[c]? =some (.cells arr t fr))(hp:∀ c a,phi' c=some a→B≤c∧∃ t fr,w'.heap[c]? =some (.cells a t fr)):
 ∀ c arr,(G.more ⟨fun _=>none,g.phi⟩ phi').phi c=some arr→∃ t fr,w'.heap[c]? =some (.cells arr t fr):=by
 intro c arr e
 have e':(g.phi c).or (phi' c)=some arr:=e
 cases h:g.phi c with
 |none=>rw [h]at e';exact(hp c arr e').2
 |some a=>
  rw [h]at e'
  cases e'
  obtain⟨h1,t,fr,h2⟩:=h0 c arr h
  exact⟨t,fr,by rw [hb.block c h1];exact h2⟩
set_option maxRecDepth 100000 in
theorem zuJ {fid:FuncId}{caps:List V}{v:V}{s:List UInt8}(h1:PCall Tryz.prog fid caps (.ret v))(h2:PCall Tryz.prog 178 [v] (.ret (.str s))):
 PCall Tryz.prog 146 [.fn fid caps] (.ret (.tup [.str s,.int .i64 0])):=by
 intro g w vs hgl hphi hsz hpw
 obtain⟨vf,hvf,rf⟩:=hpw 0 _ rfl
 obtain⟨arr,rfl,hsz',hcp⟩:=rf.inv_fn
 have hvs':vs=#[.func (.func fid) #[] arr]:=by
  apply Array.ext_getElem?;intro i;match i with
  |0=>exact hvf
  |i+1=>rw [Array.getElem?_eq_none (by simp at hsz;omega),Array.getElem?_eq_none (by simp)]
 subst hvs'
 let w2:=(w.alloc (.cells #[.string .empty] 9)).alloc (.cells #[.int .i64 0] 27)
 have hs2:w2.heap.size=w.heap.size+2:=by show ((w.heap.push _).push _).size=_;simp
 have hb:Bel w.heap.size w w2:=Bel.of (((Go.RowKit.Below.refl _ _).alloc (Nat.le_refl _) _).alloc (by show w.heap.size≤(w.heap.push _).size;simp) _) (Nat.le_refl _)
 have lo:∀ c a,g.phi c=some a→c<w.heap.size:=fun c a e=>let ⟨t,fr,h⟩:=hphi c a e;(Array.getElem?_eq_some_iff.1 h).1
 have ph2:∀ c a,g.phi c=some a→c<w2.heap.size∧∃ t fr,w2.heap[c]? =some (.cells a t fr):=fun c a e=>⟨by have:=lo c a e;omega,let ⟨t,fr,h⟩:=hphi c a e;⟨t,fr,by rw [hb.block c (lo c a e)];exact h⟩⟩
 have k1:=h1 g w2 arr hgl (fun c a e=>(ph2 c a e).2) hsz' hcp
 refine .inl ⟨zyq _ w,zix w fid arr (R1:=fun v' w'=>∃ phi',(∀ c a,phi' c=some a→w2.heap.size≤c∧∃ t fr,w'.heap[c]? =some (.cells a t fr))∧Bel w2.heap.size w2 w'∧VRel (G.more ⟨fun _=>none,g.phi⟩ phi') v v') (k1.mono ?_) ?_⟩
 ·rintro e w' ⟨phi',vc,hp,hB,rfl,hv⟩
  exact⟨vc,rfl,phi',hp,hB,hv⟩
 rintro v' w' ⟨phi',hp,hB,hv⟩
 have k2:=h2 (G.more ⟨fun _=>none,g.phi⟩ phi') w' #[v'] (hgl.mono (G.more_le ⟨fun _=>none,g.phi⟩ phi').2) (more_phi hB ph2 hp) rfl (fun i x hx=>by
  match i,hx with
  |0,hx=>cases hx;exact⟨v',rfl,hv⟩)
 refine(zd6 can178 k2).mono ?_
 rintro e w3 ⟨phi2,vc,hp2,hB2,rfl,hv2⟩
 obtain⟨sb,rfl,hsb⟩:=hv2.inv_str
 have sz1:=hB.size
 have sz2:=hB2.size
 have b1:w3.heap[w.heap.size]? =some (.cells #[.string .empty] 9 (0,0)):=by rw [hB2.block _ (by omega),hB.block _ (by omega)];show ((w.heap.push _).push _)[w.heap.size]? =_;rw [Array.getElem?_push_lt (by simp)];simp
 have b2:w3.heap[w.heap.size+1]? =some (.cells #[.int .i64 0] 27 (0,0)):=by rw [hB2.block _ (by omega),hB.block _ (by omega)];show ((w.heap.push _).push _)[w.heap.size+1]? =_;rw [Array.getElem?_push,if_pos (by simp)]
 refine⟨sb,rfl,b1,b2,fun _=>none,_,(fun c a e=>by cases e),⟨hB2.os.trans (hB.os.trans hb.os),⟨(hB2.tape.trans (hB.tape.trans hb.tape)).eq,(hB2.tape.trans (hB.tape.trans hb.tape)).le⟩,hB2.output.trans (hB.output.trans hb.output),?_,fun k hk=>?_⟩,rfl,?_⟩
 ·show _≤(Array.push _ _).size
  simp [World.setCell]
  omega
 ·rw [zmu w3 w.heap.size _ _ _ k (by omega) (by omega) (by omega),hB2.block k (by omega),hB.block k (by omega),hb.block k hk]
 ·refine VRel.mk_tup rfl fun i y hy=>?_
  match i,hy with
  |0,hy=>cases hy;exact⟨_,rfl,.str hsb⟩
  |1,hy=>cases hy;exact⟨_,rfl,.int _ _⟩
set_option maxRecDepth 100000 in
theorem zuK {fid:FuncId}{caps:List V}(h1:PCall Tryz.prog fid caps (.panic longV)):
 PCall Tryz.prog 146 [.fn fid caps] (.ret (.tup [.str [],.int .i64 2])):=by
 intro g w vs hgl hphi hsz hpw
 obtain⟨vf,hvf,rf⟩:=hpw 0 _ rfl
 obtain⟨arr,rfl,hsz',hcp⟩:=rf.inv_fn
 have hvs':vs=#[.func (.func fid) #[] arr]:=by
  apply Array.ext_getElem?;intro i;match i with
  |0=>exact hvf
  |i+1=>rw [Array.getElem?_eq_none (by simp at hsz;omega),Array.getElem?_eq_none (by simp)]
 subst hvs'
 let w2:=(w.alloc (.cells #[.string .empty] 9)).alloc (.cells #[.int .i64 0] 27)
 have hs2:w2.heap.size=w.heap.size+2:=by show ((w.heap.push _).push _).size=_;simp
 have hb:Bel w.heap.size w w2:=Bel.of (((Go.RowKit.Below.refl _ _).alloc (Nat.le_refl _) _).alloc (by show w.heap.size≤(w.heap.push _).size;simp) _) (Nat.le_refl _)
 have lo:∀ c a,g.phi c=some a→c<w.heap.size:=fun c a e=>let ⟨t,fr,h⟩:=hphi c a e;(Array.getElem?_eq_some_iff.1 h).1
 have ph2:∀ c a,g.phi c=some a→∃ t fr,w2.heap[c]? =some (.cells a t fr):=fun c a e=>let ⟨t,fr,h⟩:=hphi c a e;⟨t,fr,by rw [hb.block c (lo c a e)];exact h⟩
 have k1:=h1 g w2 arr hgl ph2 hsz' hcp
 refine .inl ⟨zyq _ w,zhY w fid arr (R1:=fun w'=>Bel w2.heap.size w2 w') (k1.mono ?_) ?_⟩
 ·rintro e w' ⟨phi',vc,hp,hB,rfl,hv⟩
  refine⟨?_,hB⟩
  cases hv with
  |ifc hv=>
   cases hv with
   |agg vs hs h1 h2=>
    have:(_:Array Value)=#[]:=Array.eq_empty_of_size_eq_zero hs
    subst this
    rfl
 intro w3 hB
 have sz1:=hB.size
 have b1:w3.heap[w.heap.size]? =some (.cells #[.string .empty] 9 (0,0)):=by rw [hB.block _ (by omega)];show ((w.heap.push _).push _)[w.heap.size]? =_;rw [Array.getElem?_push_lt (by simp)];simp
 have b2:w3.heap[w.heap.size+1]? =some (.cells #[.int .i64 0] 27 (0,0)):=by rw [hB.block _ (by omega)];show ((w.heap.push _).push _)[w.heap.size+1]? =_;rw [Array.getElem?_push,if_pos (by simp)]
 refine⟨b1,b2,fun _=>none,_,(fun c a e=>by cases e),⟨hB.os.trans hb.os,⟨(hB.tape.trans hb.tape).eq,(hB.tape.trans hb.tape).le⟩,hB.output.trans hb.output,?_,fun k hk=>?_⟩,rfl,?_⟩
 ·have:w.heap.size≤(w3.heap.push (.cells #[] 182)).size:=by simp;omega
  have sc:∀(x:World) (p:Addr) (v:Value),(x.setCell p v).heap.size=x.heap.size:=by intro x p v;simp [World.setCell]
  rw [sc,sc]
  exact this
 ·rw [zbM (by omega),zbM (by omega)]
  show (Array.push _ _)[k]? =_
  rw [Array.getElem?_push_lt (by omega), ←Array.getElem?_eq_getElem,hB.block k (by omega),hb.block k hk]
 ·refine VRel.mk_tup rfl fun i y hy=>?_
  match i,hy with
  |0,hy=>cases hy;exact⟨_,rfl,.str rfl⟩
  |1,hy=>cases hy;exact⟨_,rfl,.int _ _⟩
end Go.Proofs

namespace Go.Proofs
open Go.Ab Go.Pl
noncomputable def cRMake:List V→Option PR:=zB (fun p:Bool×Nat×Nat=>[.bool p.1,.str (dec p.2.1),.str (dec p.2.2)]) (fun p=>(dec p.2.1).length≤1000∧(dec p.2.2).length≤1000∧0<p.2.2) (fun p=>.ret (mkV p.1 p.2.1 p.2.2))
theorem zyZ:∀ args r,cRMake args=some r→PCall Tryz.prog 82 args r:=zn fun p h=>rMake_ok p.1 p.2.1 p.2.2 h.1 h.2.1 h.2.2
@[go_sem] theorem cRMake_eq(neg:Bool)(n d:Nat)(ln:(dec n).length≤1000)(ld:(dec d).length≤1000)(hd:0<d):cRMake [.bool neg,.str (dec n),.str (dec d)]=some (.ret (mkV neg n d)):=
 zo (pat:=fun p:Bool×Nat×Nat=>[V.bool p.1,.str (dec p.2.1),.str (dec p.2.2)]) (fun x y h=>by obtain⟨x1,x2,x3⟩:=x;obtain⟨y1,y2,y3⟩:=y;simp at h;obtain⟨h1,h2,h3⟩:=h;rw [h1,zQ h2,zQ h3]) (neg,n,d) ⟨ln,ld,hd⟩
set_option maxHeartbeats 4000000 in
set_option maxRecDepth 100000 in
theorem r3Mul_ok(a b:List UInt8)(la:a.length≤1000000000)(lb:b.length≤1000000000):PCall Tryz.prog 79 [.str a,.str b] (.ret (zaG a b)):=by
 have hΓ:=zg zfO (zg zjd (zg zqU (zg zyZ zh)));refine PCall.walk (rs:=[.tmp 4,.tmp 5]) [0,1,4,5,6,7,8,9,10,11,12,13,33] [] mixed (hΓ) (zf) call79 Tryz.func79 rfl Tryz.ntmps79 rfl (by kernel_rfl) (by simp) (by simp [push_cast]) ?_;cases ha:ratP a with
 |none=>
  rw [ziJ b ha];cases hb:ratP b with
  |none=>simp (disch:=first|assumption|(push_cast<;>omega)|omega) only [go_sem,ha,hb,errV]
  |some y=>
   obtain⟨q,n,f⟩:=y;simp (disch:=first|assumption|(push_cast<;>omega)|omega) only [go_sem,ha,hb,errV]
 |some x=>
  obtain⟨p,m,d⟩:=x;cases hb:ratP b with
  |none=>
   rw [ziI a hb];simp (disch:=first|assumption|(push_cast<;>omega)|omega) only [go_sem,ha,hb,errV]
  |some y=>
   obtain⟨q,n,f⟩:=y;rw [zeY ha hb];obtain⟨lm,ld,d0⟩:=zcE ha;obtain⟨ln,lf,f0⟩:=zcE hb;have l1:=zac lm lf;have l2:=zac ln ld;have l3:=zac ld lf;have l4:=zac lm ln;have l5:=zac ld ln;have h0:=Nat.mul_pos d0 f0;have l6:=zpQ (p:=p) (q:=q) l1 l2;obtain⟨s,e,hse⟩:=zom (!(p==q)) (m*n) (d*f);simp (disch:=first|assumption|(push_cast<;>omega)|omega) only [go_sem,ha,hb,hse]
noncomputable def zy5:List V→Option PR:=zB (fun p:List UInt8×List UInt8=>[.str p.1,.str p.2]) (fun p=>p.1.length≤1000000000∧p.2.length≤1000000000) (fun p=>.ret (zaG p.1 p.2))
theorem zy3:∀ args r,zy5 args=some r→PCall Tryz.prog 79 args r:=zn fun p h=>r3Mul_ok p.1 p.2 h.1 h.2
@[go_sem] theorem zy4(a b:List UInt8)(la:a.length≤1000000000)(lb:b.length≤1000000000):zy5 [.str a,.str b]=some (.ret (zaG a b)):=zo (fun p q h=>by simp at h;exact Prod.ext h.1 h.2) (a,b) ⟨la,lb⟩
noncomputable def cR3Cmp:List V→Option PR:=zB (fun p:List UInt8×List UInt8=>[.str p.1,.str p.2]) (fun p=>p.1.length≤1000000000∧p.2.length≤1000000000) (fun p=>.ret (.int .i64 (zaD p.1 p.2)))
theorem zm1:∀ args r,cR3Cmp args=some r→PCall Tryz.prog 30 args r:=zn fun p h=>r3Cmp_ok p.1 p.2 h.1 h.2
@[go_sem] theorem cR3Cmp_eq(a b:List UInt8)(la:a.length≤1000000000)(lb:b.length≤1000000000):cR3Cmp [.str a,.str b]=some (.ret (.int .i64 (zaD a b))):=zo (fun p q h=>by simp at h;exact Prod.ext h.1 h.2) (a,b) ⟨la,lb⟩
end Go.Proofs

namespace Go.Proofs
open Go.Ab Go.Pl
def numT(s:Bool)(n d:Nat):List UInt8:=(if s=true then [45]else [])++dec n++(if d=1 then []else 47::dec d)
set_option maxHeartbeats 4000000 in
set_option maxRecDepth 100000 in
theorem zsl(s:Bool)(n d:Nat)(hn:(dec n).length≤400)(hd:(dec d).length≤400):PCall Tryz.prog 178 [.agg [.bool s,.str (dec n),.str (dec d)]] (.ret (.str (numT s n d))):=by
 refine PCall.walk (rs:=[.tmp 2]) [0,1,2,3,7,12] [] mixed (zh) (zf) call178 Tryz.func178 rfl Tryz.ntmps178 rfl (by kernel_rfl) (by simp) (by simp [push_cast]) ?_;have hz:decide (dec d=[49])=decide (d=1):=by have:dec d=[49]↔d=1:=⟨fun h=>zQ (h.trans (by rfl:([49]:List UInt8)=dec 1)),fun h=>by subst h;rfl⟩;simp only [this]
 cases s with
 |true=>
  simp (disch:=first|assumption|(push_cast<;>omega)|omega) only [go_sem];refine⟨by omega,?_⟩;rw [hz];refine AXc.introN (fun h1=>?_) (fun h1=>?_)
  ·simp (disch:=first|assumption|(push_cast<;>omega)|omega) only [go_sem,numT,h1];omega
  ·simp (disch:=first|assumption|(push_cast<;>omega)|omega) only [go_sem,numT,h1]
 |false=>
  simp (disch:=first|assumption|(push_cast<;>omega)|omega) only [go_sem];rw [hz];refine AXc.introN (fun h1=>?_) (fun h1=>?_)
  ·simp (disch:=first|assumption|(push_cast<;>omega)|omega) only [go_sem,numT,h1];omega
  ·simp (disch:=first|assumption|(push_cast<;>omega)|omega) only [go_sem,numT,h1]
def redR(neg:Bool)(n d:Nat):PR:=if zdp (n / Nat.gcd n d)=true∨zdp (d / Nat.gcd n d)=true then .panic longV else .ret (.agg [.bool (neg&&decide (n≠0)),.str (dec (n / Nat.gcd n d)),.str (dec (d / Nat.gcd n d))])
set_option maxHeartbeats 4000000 in
set_option maxRecDepth 100000 in
theorem zvQ(neg:Bool)(n d:Nat)(hn:(dec n).length≤1000)(hd:(dec d).length≤1000)(h0:0<d):PCall Tryz.prog 113 [.bool neg,.str (dec n),.str (dec d)] (redR neg n d):=by
 have hΓ:=zg zq1 (zg zfj (zg cQuot_ok zh));have hg:=zxw (m:=n) h0 hd;have hg0:0<Nat.gcd n d:=Nat.gcd_pos_of_pos_right _ h0;have hz:decide (dec n=[48])=decide (n=0):=by simp only [dec_is_zero]
 unfold redR;by_cases hl:zdp (n / Nat.gcd n d)=true∨zdp (d / Nat.gcd n d)=true
 ·rw [if_pos hl];have hl':400<(dec (n / Nat.gcd n d)).length∨400<(dec (d / Nat.gcd n d)).length:=by simpa [zdp] using hl
  refine PCall.walk (rs:=[.cell 6 150]) [0,1,2,6,7,8,36] [] mixed (hΓ) (zf) zyB Tryz.func113 rfl Tryz.ntmps113 rfl (by kernel_rfl) (by simp) (by simp [push_cast]) ?_;simp (disch:=first|assumption|(push_cast<;>omega)|omega) only [go_sem];rw [show (decide (400<((dec (n / Nat.gcd n d)).length:Int))||decide (400<((dec (d / Nat.gcd n d)).length:Int)))=true by simp;omega];simp (disch:=first|assumption|(push_cast<;>omega)|omega) only [go_sem];simp only [zaU];simp (disch:=first|assumption|(push_cast<;>omega)|omega) only [go_sem];exact .pure (.ifc (.agg (by simp)))
 ·rw [if_neg hl];have hl':¬(400<(dec (n / Nat.gcd n d)).length∨400<(dec (d / Nat.gcd n d)).length):=by simpa [zdp] using hl
  refine PCall.walk (rs:=[.cell 6 150]) [0,1,2,6,7,8,36] [] mixed (hΓ) (zf) zyB Tryz.func113 rfl Tryz.ntmps113 rfl (by kernel_rfl) (by simp) (by simp [push_cast]) ?_;simp (disch:=first|assumption|(push_cast<;>omega)|omega) only [go_sem];rw [show (decide (400<((dec (n / Nat.gcd n d)).length:Int))||decide (400<((dec (d / Nat.gcd n d)).length:Int)))=false by simp;omega];simp (disch:=first|assumption|(push_cast<;>omega)|omega) only [go_sem,hz,decide_not];exact .pure (by simp [zW,zO,zT])
noncomputable def zyQ:List V→Option PR:=zB (fun p:Bool×Nat×Nat=>[.bool p.1,.str (dec p.2.1),.str (dec p.2.2)]) (fun p=>(dec p.2.1).length≤1000∧(dec p.2.2).length≤1000∧0<p.2.2) (fun p=>redR p.1 p.2.1 p.2.2)
theorem ztY:∀ args r,zyQ args=some r→PCall Tryz.prog 113 args r:=zn fun p h=>zvQ p.1 p.2.1 p.2.2 h.1 h.2.1 h.2.2
@[go_sem] theorem cReduce_eq(neg:Bool)(n d:Nat)(ln:(dec n).length≤1000)(ld:(dec d).length≤1000)(hd:0<d):zyQ [.bool neg,.str (dec n),.str (dec d)]=some (redR neg n d):=
 zo (pat:=fun p:Bool×Nat×Nat=>[V.bool p.1,.str (dec p.2.1),.str (dec p.2.2)]) (fun x y h=>by obtain⟨x1,x2,x3⟩:=x;obtain⟨y1,y2,y3⟩:=y;simp at h;obtain⟨h1,h2,h3⟩:=h;rw [h1,zQ h2,zQ h3]) (neg,n,d) ⟨ln,ld,hd⟩
structure Two where
 p:Bool
 m:Nat
 d:Nat
 q:Bool
 n:Nat
 f:Nat
def Two.ok(x:Two):Prop:=(dec x.m).length≤400∧(dec x.d).length≤400∧0<x.d∧(dec x.n).length≤400∧(dec x.f).length≤400∧0<x.f
def Two.a(x:Two):List V:=[.bool x.p,.str (dec x.m),.str (dec x.d)]
def Two.b(x:Two):List V:=[.bool x.q,.str (dec x.n),.str (dec x.f)]
def Two.vs(x:Two):List V:=[.agg x.a,.agg x.b]
theorem Two.ab_inj {x y:Two}(ha:x.a=y.a)(hb:x.b=y.b):x=y:=by obtain⟨p,m,d,q,n,f⟩:=x;obtain⟨p',m',d',q',n',f'⟩:=y;simp only [Two.a,Two.b,List.cons.injEq,V.bool.injEq,V.str.injEq,and_true]at ha hb;obtain⟨rfl,h1,h2⟩:=ha;obtain⟨rfl,h3,h4⟩:=hb;rw [zQ h1,zQ h2,zQ h3,zQ h4]
theorem Two.vs_inj {x y:Two}(h:x.vs=y.vs):x=y:=by simp only [Two.vs,List.cons.injEq,V.agg.injEq,and_true]at h;exact Two.ab_inj h.1 h.2
def opN(k:Nat)(x:Two):Bool×Nat×Nat:=match k with
 |0=>(!(x.p==x.q),x.m*x.n,x.d*x.f)
 |1=>((sumS x.p (x.m*x.f) x.q (x.n*x.d)).1,(sumS x.p (x.m*x.f) x.q (x.n*x.d)).2,x.d*x.f)
 |_=>(!(x.p==x.q),x.m*x.f,x.d*x.n)
def opR(k:Nat)(x:Two):PR:=redR (opN k x).1 (opN k x).2.1 (opN k x).2.2
theorem ziG(neg:Bool)(n d:Nat):redR neg n d=.panic longV∨∃ s a b,redR neg n d=.ret (.agg [.bool s,.str a,.str b]):=by
 unfold redR;split
 ·exact .inl rfl
 ·exact .inr ⟨_,_,_,rfl⟩
set_option maxHeartbeats 4000000 in
set_option maxRecDepth 100000 in
theorem opMul_ok(x:Two)(hx:x.ok)(hz:True):PCall Tryz.prog 112 x.vs (opR 0 x):=by
 have hΓ:=zg zq0 (zg zfj (zg zm3 (zg ztY zh)));obtain⟨p,m,d,q,n,f⟩:=x;obtain⟨lm,ld,d0,ln,lf,f0⟩:=hx;simp only at lm ld d0 ln lf f0 hz;simp only [Two.vs,Two.a,Two.b,opR,opN];have l1:=zac lm lf;have l2:=zac ln ld;have l3:=zac ld lf;have l4:=zac lm ln;have l5:=zac ld ln;have h0:=Nat.mul_pos d0 f0;have l6:=zpQ (p:=p) (q:=q) l1 l2;refine PCall.walk (rs:=[.cell 4 150]) [0,1,2,3,4] [] mixed (hΓ) (zf) call112 Tryz.func112 rfl Tryz.ntmps112 rfl (by kernel_rfl) (by simp) (by simp [push_cast]) ?_;rcases ziG (!(p==q)) (m*n) (d*f)with hr|⟨s',a',b',hr⟩
 ·simp (disch:=first|assumption|(push_cast<;>omega)|omega) only [go_sem,hr];exact⟨by kernel_rfl,by kernel_rfl,.pure (.ifc (.agg (by simp)))⟩
 ·simp (disch:=first|assumption|(push_cast<;>omega)|omega) only [go_sem,hr];refine AXk.intro (by kernel_rfl) ?_;simp (disch:=first|assumption|(push_cast<;>omega)|omega) only [go_sem,hr];exact .pure (by simp [zW,zO,zT])
noncomputable def cOpMul:List V→Option PR:=zB Two.vs (fun x=>x.ok∧True) (opR 0)
theorem zzd:∀ args r,cOpMul args=some r→PCall Tryz.prog 112 args r:=zn fun x h=>opMul_ok x h.1 h.2
theorem zze(x:Two)(hx:x.ok)(hz:True):cOpMul [.agg x.a,.agg x.b]=some (opR 0 x):=zo (pat:=Two.vs) (fun _ _ h=>Two.vs_inj h) x ⟨hx,hz⟩
set_option maxHeartbeats 4000000 in
set_option maxRecDepth 100000 in
theorem zrL(x:Two)(hx:x.ok)(hz:True):PCall Tryz.prog 147 [.fp [.fn 112 []],.fp x.a,.fp x.b] (opR 0 x):=by
 have hΓ:=zg zzd zh;have hc:=zze x hx hz;obtain⟨p,m,d,q,n,f⟩:=x;simp only [Two.a,Two.b]at hc ⊢;refine PCall.walk (rs:=[.cell 3 150]) [0,1,2,3] [] mixed (hΓ) (zf) call147 Tryz.func147 rfl Tryz.ntmps147 rfl (by kernel_rfl) (by simp) (by simp [push_cast]) ?_;rcases ziG (opN 0 ⟨p,m,d,q,n,f⟩).1 (opN 0 ⟨p,m,d,q,n,f⟩).2.1 (opN 0 ⟨p,m,d,q,n,f⟩).2.2 with hr|⟨s',a',b',hr⟩
 ·have hr':opR 0 ⟨p,m,d,q,n,f⟩=_:=hr;rw [hr']at hc ⊢;simp (disch:=first|assumption|(push_cast<;>omega)|omega) only [go_sem,hc];exact .pure (.ifc (.agg (by simp)))
 ·have hr':opR 0 ⟨p,m,d,q,n,f⟩=_:=hr;rw [hr']at hc ⊢;simp (disch:=first|assumption|(push_cast<;>omega)|omega) only [go_sem,hc];exact .pure (by simp [zW,zO,zT])
theorem zwo(neg:Bool)(n d:Nat)(hd:0<d):numT (neg&&decide (n≠0)) (n / Nat.gcd n d) (d / Nat.gcd n d)=ratT neg (n / Nat.gcd n d) (d / Nat.gcd n d):=by
 have hg:0<Nat.gcd n d:=Nat.gcd_pos_of_pos_right _ hd;have h0:n / Nat.gcd n d=0↔n=0:=by
  constructor
  ·intro h;rcases Nat.eq_zero_or_pos n with h1|h1
   ·exact h1
   ·have h2:=Nat.le_of_dvd h1 (Nat.gcd_dvd_left n d);have h3:=Nat.div_pos h2 hg;omega
  ·intro h;rw [h];simp
 unfold numT ratT;by_cases h1:n=0
 ·simp [h1]
 ·have h2:¬n / Nat.gcd n d=0:=fun h=>h1 (h0.1 h);cases neg<;>simp [h1,h2]
theorem opN_pos {x:Two}(hx:x.ok):0<(opN 0 x).2.2∧0<(opN 1 x).2.2:=⟨Nat.mul_pos hx.2.2.1 hx.2.2.2.2.2,Nat.mul_pos hx.2.2.1 hx.2.2.2.2.2⟩
theorem zrz {caps:List V}{neg:Bool}{n d:Nat}(hd:0<d)(h:PCall Tryz.prog 147 caps (redR neg n d)):PCall Tryz.prog 146 [.fn 147 caps] (.ret (mkV neg n d)):=by
 unfold redR at h;unfold mkV;by_cases hl:zdp (n / Nat.gcd n d)=true∨zdp (d / Nat.gcd n d)=true
 ·rw [if_pos hl]at h ⊢;exact zuK h
 ·rw [if_neg hl]at h ⊢;have hl':¬(400<(dec (n / Nat.gcd n d)).length∨400<(dec (d / Nat.gcd n d)).length):=by simpa [zdp] using hl
  rw [←zwo neg n d hd];exact zuJ h (zsl _ _ _ (by omega) (by omega))
noncomputable def cWrMul:List V→Option PR:=zB (fun x:Two=>[.fn 147 [.fp [.fn 112 []],.fp x.a,.fp x.b]]) (fun x=>x.ok∧True) (fun x=>.ret (mkV (opN 0 x).1 (opN 0 x).2.1 (opN 0 x).2.2))
theorem zyD:∀ args r,cWrMul args=some r→PCall Tryz.prog 146 args r:=zn fun x h=>zrz ((opN_pos h.1).1) (zrL x h.1 h.2)
theorem zyE(x:Two)(hx:x.ok)(hz:True):cWrMul [.fn 147 [.fp [.fn 112 []],.fp x.a,.fp x.b]]=some (.ret (mkV (opN 0 x).1 (opN 0 x).2.1 (opN 0 x).2.2)):=
 zo (pat:=fun x:Two=>[V.fn 147 [.fp [.fn 112 []],.fp x.a,.fp x.b]]) (fun _ _ h=>by simp only [List.cons.injEq,V.fn.injEq,V.fp.injEq,true_and,and_true]at h;exact Two.ab_inj h.1 h.2) x ⟨hx,hz⟩
set_option maxHeartbeats 8000000 in
set_option maxRecDepth 100000 in
theorem zkV(a b:List UInt8)(la:a.length≤1000000000)(lb:b.length≤1000000000)(hz:True):PCall Tryz.prog 111 [.str a,.str b,.fn 112 []] (.ret (zaG a b)):=by
 have hΓ:=zg zhI (zg zyD zh);refine PCall.walk (rs:=[.tmp 6,.tmp 7]) [0,1,2,5,6,7,8,9,10,11,27] [] mixed (hΓ) (zf) call111 Tryz.func111 rfl Tryz.ntmps111 rfl (by kernel_rfl) (by simp) (by simp [push_cast]) ?_;cases ha:ratP a with
 |none=>
  rw [ziJ b ha];cases hb:ratP b with
  |none=>simp (disch:=first|assumption|(push_cast<;>omega)|omega) only [go_sem,ha,hb,errV]
  |some y=>
   obtain⟨q,n,f⟩:=y;simp (disch:=first|assumption|(push_cast<;>omega)|omega) only [go_sem,ha,hb,errV]
 |some x=>
  obtain⟨p,m,d⟩:=x;cases hb:ratP b with
  |none=>
   rw [ziI a hb];simp (disch:=first|assumption|(push_cast<;>omega)|omega) only [go_sem,ha,hb,errV]
  |some y=>
   obtain⟨q,n,f⟩:=y;rw [zeY ha hb];obtain⟨lm,ld,d0⟩:=zcE ha;obtain⟨ln,lf,f0⟩:=zcE hb;have hc:=zyE ⟨p,m,d,q,n,f⟩ ⟨lm,ld,d0,ln,lf,f0⟩ (trivial);simp only [Two.a,Two.b,opN]at hc;obtain⟨s,e,hse⟩:=zom (!(p==q)) (m*n) (d*f);rw [hse]at hc ⊢;simp (disch:=first|assumption|(push_cast<;>omega)|omega) only [go_sem,ha,hb,hc]
end Go.Proofs
