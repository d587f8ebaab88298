/- A statement whose order is open: the order of the text stands for all orders. -/
import Derived.Test.YtbdlfegfepggnaaGreatDoorAbRun
import Derived.Orders
set_option linter.all false
set_option maxHeartbeats 16000000
set_option maxRecDepth 100000
noncomputable section
namespace Go.Ab
def Foot.idle(f:Foot):Bool:=f.R.isEmpty&&f.W.isEmpty&&f.lo==f.hi
def Foot.still(f:Foot):Bool:=f.W.isEmpty&&f.lo==f.hi
def maskOf(acc:ZN)(o:Oper):Nat:=o.after.toList.foldl (fun m e=>if Region.binds .any e then m|||2^e.on|||acc.getD e.on 0 else m) 0
def zhe:List Oper→ZN→ZN
 |[],acc=>acc
 |o::os,acc=>zhe os (acc++[maskOf acc o])
def masks(ops:Array Oper):ZN:=zhe ops.toList []
def ordB(ms:ZN)(i j:Nat):Bool:=(ms.getD j 0).testBit i
inductive Bef(ops:Array Oper):Nat→Nat→Prop
 |edge {j:Nat} {o:Oper} {e:Edge} (ho:ops[j]? =some o) (he:e∈o.after.toList) (hb:Region.binds .any e=true):Bef ops e.on j
 |trans {i k j:Nat} (h:Bef ops i k) (h':Bef ops k j):Bef ops i j
def ziB(acc:ZN)(i:Nat):∀(es:List Edge)(m:Nat),(es.foldl (fun m e=>if Region.binds .any e then m|||2^e.on|||acc.getD e.on 0 else m) m).testBit i=true→m.testBit i=true∨∃e∈es,Region.binds .any e=true∧(e.on=i∨(acc.getD e.on 0).testBit i=true)
 |[],m,h=>.inl h
 |e::es,m,h=>by
  rw[YbC]at h;rcases ziB acc i es _ h with h|⟨e',he',r⟩
  ·split at h
   ·rename_i hb;rw[Nat.testBit_or,Nat.testBit_or]at h;simp only[Yaj]at h;rcases h with(h|h)|h
    ·exact .inl h
    ·rw[Nat.testBit_two_pow]at h;exact .inr ⟨e,Zs,hb,.inl (by simpa using h)⟩
    exact .inr ⟨e,Zs,hb,.inr h⟩
   exact .inl h
  exact .inr ⟨e',by simp[he'],r⟩
def zeX(ops:Array Oper):∀(os:List Oper)(acc:ZN),ops.toList.drop acc.length=os→(∀j i,(acc.getD j 0).testBit i=true→Bef ops i j)→∀j i,((zhe os acc).getD j 0).testBit i=true→Bef ops i j
 |[],acc,_,h=>h
 |o::os,acc,hd,h=>by
  have ho:ops[acc.length]? =some o:=by
   have:(ops.toList.drop acc.length)[0]? =some o:=by rw[hd];rfl
   rw[Y8]at this;rw[←YF];simpa using this
  refine zeX ops os (acc++[maskOf acc o]) ?_ ?_
  ·rw[Yg,←YaR,hd];rfl
  intro j i hb;by_cases hj:j<acc.length
  ·rw[Ya,YP hj,←Ya]at hb;exact h j i hb
  rw[Ya,Yak (Y3 hj),←Ya]at hb;by_cases hj0:j-acc.length=0
  ·have hje:j=acc.length:=Zo;subst hje;simp only[YaK,List.getD_cons_zero]at hb;rcases ziB acc i _ _ hb with h0|⟨e,he,hbd,r⟩
   ·simp at h0
   rcases r with rfl|r
   ·exact .edge ho he hbd
   exact .trans (h _ _ r) (.edge ho he hbd)
  rw[Ya,Yo (by simp;omega)]at hb;simp at hb
def zd4 {ops:Array Oper}{i j:Nat}(h:ordB (masks ops) i j=true):Bef ops i j:=
 zeX ops ops.toList [] rfl (fun j i h=>by simp at h) j i h
def ze4:List Oper→Nat→Bool
 |[],_=>true
 |o::os,j=>(o.after.toList.all fun e=> !Region.binds .any e||decide (e.on<j))&&ze4 os (j+1)
def zfA(ops:Array Oper)(o:Oper):ZN:=o.dst.toList++o.looksAt ops
def zgy(ops:Array Oper)(ms:ZN)(os:List Oper)(j:Nat)(t k:Nat):Bool:=
 match os with
 |[]=>true
 |o::os=>(j==k|| !(zfA ops o).contains t||(if k<j then ordB ms k j else ordB ms j k))&&zgy ops ms os (j+1) t k
def zdY(ops:Array Oper)(ms:ZN):List Oper→Nat→Bool
 |[],_=>true
 |o::os,k=>(match o.dst with|some t=>zgy ops ms ops.toList 0 t k|none=>true)&&zdY ops ms os (k+1)
def zco(ops:Array Oper):Bool:=ze4 ops.toList 0&&zdY ops (masks ops) ops.toList 0
def zfN {ops:Array Oper}:∀(os:List Oper)(j:Nat),ops.toList.drop j=os→ze4 os j=true→∀(k:Nat)(o:Oper)(e:Edge),j≤k→ops[k]? =some o→e∈o.after.toList→Region.binds .any e=true→e.on<k
 |[],j,hd,_,k,o,e,hk,ho,_,_=>by
  have:ops.toList.length≤j:=by simpa using hd
  have:k<ops.size:=(YA.1 ho).1;simp at *; omega
 |o'::os,j,hd,h,k,o,e,hk,ho,he,hb=>by
  simp only[ze4,Yj]at h;by_cases hkj:k=j
  ·subst hkj;have:ops[k]? =some o':=by
    have:(ops.toList.drop k)[0]? =some o':=by rw[hd];rfl
    rw[Y8]at this;rw[←YF];simpa using this
   rw[ho]at this;cases this;have:=Yl.1 h.1 e he;simp only[hb,YbN,YaT,Yn]at this;exact this
  exact zfN os (j+1) (by rw[←YaR,hd];rfl) h.2 k o e Zo ho he hb
def zij {ops:Array Oper}{ms:ZN}{t k:Nat}:∀(os:List Oper)(j:Nat),ops.toList.drop j=os→zgy ops ms os j t k=true→∀(i:Nat)(o:Oper),j≤i→ops[i]? =some o→i≠k→t∈zfA ops o→(k<i→ordB ms k i=true)∧(i<k→ordB ms i k=true)
 |[],j,hd,_,i,o,hi,ho,_,_=>by
  have:ops.toList.length≤j:=by simpa using hd
  have:i<ops.size:=(YA.1 ho).1;simp at *; omega
 |o'::os,j,hd,h,i,o,hi,ho,hne,ht=>by
  simp only[zgy,Yj]at h;by_cases hij:i=j
  ·subst hij;have:ops[i]? =some o':=by
    have:(ops.toList.drop i)[0]? =some o':=by rw[hd];rfl
    rw[Y8]at this;rw[←YF];simpa using this
   rw[ho]at this;obtain rfl:o=o':=Yh this;have h1:=h.1;have hb:(i==k)=false:=by simp[hne]
   have hc:(zfA ops o).contains t=true:=by simpa using ht
   simp only[hb,hc,YbN,YaT]at h1;constructor
   ·intro hlt;rw[Yi hlt]at h1;exact h1
   intro hlt;rw[Ye Zo]at h1;exact h1
  exact zij os (j+1) (by rw[←YaR,hd];rfl) h.2 i o Zo ho hne ht
def zeK {ops:Array Oper}{ms:ZN}:∀(os:List Oper)(j:Nat),ops.toList.drop j=os→zdY ops ms os j=true→∀(k:Nat)(ok:Oper)(t:Nat),j≤k→ops[k]? =some ok→ok.dst=some t→zgy ops ms ops.toList 0 t k=true
 |[],j,hd,_,i,o,t,hi,ho,_=>by
  have:ops.toList.length≤j:=by simpa using hd
  have:i<ops.size:=(YA.1 ho).1;simp at *; omega
 |o'::os,j,hd,h,k,ok,t,hk,ho,ht=>by
  simp only[zdY,Yj]at h;by_cases hkj:k=j
  ·subst hkj;have:ops[k]? =some o':=by
    have:(ops.toList.drop k)[0]? =some o':=by rw[hd];rfl
    rw[Y8]at this;rw[←YF];simpa using this
   rw[ho]at this;cases this;have h1:=h.1;rw[ht]at h1;exact h1
  exact zeK os (j+1) (by rw[←YaR,hd];rfl) h.2 k ok t Zo ho ht
def ziQ {ops:Array Oper}(h:zco ops=true){i k:Nat}{oi ok:Oper}{t:Nat}(hi:ops[i]? =some oi)(hk:ops[k]? =some ok)(hne:i≠k)(ht:ok.dst=some t)(hn:t∈zfA ops oi):(k<i→Bef ops k i)∧(i<k→Bef ops i k):=by simp only[zco,Yj]at h;have h1:=zeK ops.toList 0 rfl h.2 k ok t (Yk _) hk ht;have h2:=zij ops.toList 0 rfl h1 i oi (Yk _) hi hne hn;exact⟨fun e=>zd4 (h2.1 e),fun e=>zd4 (h2.2 e)⟩
def zhy {ops:Array Oper}(h:zco ops=true){k:Nat}{o:Oper}{e:Edge}(ho:ops[k]? =some o)(he:e∈o.after.toList)(hb:Region.binds .any e=true):e.on<k:=by simp only[zco,Yj]at h;exact zfN ops.toList 0 rfl h.1 k o e (Yk _) ho he hb
def Bef.lt {ops:Array Oper}(h:zco ops=true){i j:Nat}(b:Bef ops i j):i<j:=by
 induction b with
 |edge ho he hb=>exact zhy h ho he hb
 |trans _ _ ih1 ih2=>omega
def clash(f f':Foot):Bool:=
 (f.W.any fun b=>f'.R.contains b||f'.W.contains b||(decide (f'.lo≤b)&&decide (b<f'.hi)))||
 (f'.W.any fun b=>f.R.contains b||(decide (f.lo≤b)&&decide (b<f.hi)))||
 (f'.R.any fun b=>decide (f.lo≤b)&&decide (b<f.hi))||
 (f.R.any fun b=>decide (f'.lo≤b)&&decide (b<f'.hi))
def chkFull(ms:ZN)(feet:List (Nat×Foot)):Bool:=
 feet.all fun p=>feet.all fun q=> !decide (p.1<q.1)|| !clash p.2 q.2||ordB ms p.1 q.1
def chk(ops:Array Oper)(feet:List (Nat×Foot)):Bool:=(feet.all fun p=>p.2.still)||chkFull (masks ops) feet
def zg1(ops:Array Oper)(i:Nat):Bool:=
 (List.range i).all (fun k=>ordB (masks ops) k i)&&((List.range ops.size).all fun k=>decide (k≤i)||ordB (masks ops) i k)
def accF(acc:List (Nat×Foot))(i:Nat)(f:Foot):List (Nat×Foot):=if f.idle=true then acc else(i,f)::acc
def DRun(C:Cfg)(P:Program)(ops:Array Oper):List Oper→Nat→St→List (Nat×Foot)→(Out→St→Prop)→Prop
 |[],_,s,acc,K=>chk ops acc=true∧K .norm s
 |o::os,i,s,acc,K=>
  match o.guard with
  |none=>fol C (step1 C P s.env o.op s.h) (fun v h f=>DRun C P ops os (i+1) ((s.put o.dst v).hp h) (accF acc i f) K) (fun v=>zg1 ops i=true∧chk ops acc=true∧K (.panic v) s)
  |some _=>
   match gval ops s.env o with
   |some gb=>folG C gb (step1 C P s.env o.op s.h) s.h (fun v h f=>DRun C P ops os (i+1) ((s.put o.dst v).hp h) (accF acc i f) K) (fun v=>zg1 ops i=true∧chk ops acc=true∧K (.panic v) s)
   |none=>False
end Go.Ab

namespace Go.Ab
def zfC(ops:Array Oper)(i:Nat):Option Nat:=(ops[i]?).bind (·.dst)
structure StepOK(C:Cfg)(P:Program)(ops:Array Oper)(i:Nat)(s s':St)(v:V)(f:Foot):Prop where
 env:s'.env=(s.put (zfC ops i) v).env
 stat:Stat s.h s'.h f.W
 wok:wok C f.W=true
 births:∀b,s.h.next≤b→b<s'.h.next→f.lo≤b∧b<f.hi
 exec:∀(o:Oper),ops[i]? =some o→∀(g:G)(base:Nat)(D:Nat→Prop)(w:World)(a:Act)(next:Act→World→Prop)(Q:Exit→Act→World→Prop),
  Inv g base s.h D w→OpsRel g C.nt ops o s.env a→(∀b∈f.R++f.W,D b)→
  (∀g' w' vc,VRel g' v vc→Post g g' base s.h s'.h D f.W w w'→next (a.put o.dst vc) w')→wpOp P ops Q i next a w
def G.cut(g:G)(n:Nat):G:={ g with mu:=fun b=>if b<n then g.mu b else none }
def G.cut_some {g:G}{n b:Nat}{T:Tgt}:(g.cut n).mu b=some T↔b<n∧g.mu b=some T:=by
 simp only[G.cut];split
 ·rename_i h;exact⟨fun e=>⟨h,e⟩,fun e=>e.2⟩
 rename_i h;exact⟨fun e=>(by cases e),fun e=>absurd e.1 h⟩
def Xx(g:G){n m:Nat}(h:n≤m):(g.cut n).le (g.cut m):=
 ⟨fun _ _ e=>G.cut_some.2 ⟨Yu (G.cut_some.1 e).1 h,(G.cut_some.1 e).2⟩,fun _ _ e=>e⟩
def Xs {g g':G}(h:g.le g')(n:Nat):(g.cut n).le (g'.cut n):=
 ⟨fun _ _ e=>G.cut_some.2 ⟨(G.cut_some.1 e).1,h.1 _ _ (G.cut_some.1 e).2⟩,h.2⟩
structure TRun(C:Cfg)(P:Program)(ops:Array Oper)(m:Nat)(S:Nat→St)(v:Nat→V)(f:Nat→Foot):Prop where
 hm:m≤ops.size
 ok:zco ops=true
 step:∀k,k<m→StepOK C P ops k (S k) (S (k+1)) (v k) (f k)
 keys:∀b x,(S 0).h.get b=some x→b<(S 0).h.next
 dsts:∀o∈ops.toList,∀d,o.dst=some d→d<C.nt
def touch(S:Nat→St)(f:Nat→Foot)(k b:Nat):Prop:=b∈(f k).W∨((S k).h.next≤b∧b<(S (k+1)).h.next)
section
variable {C:Cfg}{P:Program}{ops:Array Oper}{m:Nat}{S:Nat→St}{v:Nat→V}{f:Nat→Foot}
def TRun.next_mono(T:TRun C P ops m S v f):∀(q p:Nat),p≤q→q≤m→(S p).h.next≤(S q).h.next:=by
 intro q;induction q with
 |zero=>intro p hp _;obtain rfl:p=0:=Zo;exact Yc _
 |succ q ih=>
  intro p hp hq;by_cases h:p=q+1
  ·subst h;exact Yc _
  exact Yw (ih p Zo Zo) (T.step q Zo).stat.next
def TRun.keysAt(T:TRun C P ops m S v f):∀p,p≤m→∀b x,(S p).h.get b=some x→b<(S p).h.next:=by
 intro p;induction p with
 |zero=>intro _;exact T.keys
 |succ p ih=>intro hp;exact(T.step p Zo).stat.keys (ih Zo)
def TRun.same(T:TRun C P ops m S v f)(b:Nat):∀(q p:Nat),p≤q→q≤m→b<(S p).h.next→(∀k,p≤k→k<q→¬touch S f k b)→(S q).h.get b=(S p).h.get b:=by
 intro q;induction q with
 |zero=>intro p hp _ _ _;obtain rfl:p=0:=Zo;rfl
 |succ q ih=>
  intro p hp hq hb hn;by_cases h:p=q+1
  ·subst h;rfl
  rw[←ih p Zo Zo hb fun k h1 h2=>hn k h1 Zo];have:=T.next_mono q p Zo Zo;exact(T.step q Zo).stat.frame b Zo fun h=>hn q Zo Zo (.inl h)
def TRun.envAt(T:TRun C P ops m S v f)(t:Nat):∀(q p:Nat),p≤q→q≤m→(∀k,p≤k→k<q→zfC ops k≠some t)→(S q).env.lookup t=(S p).env.lookup t:=by
 intro q;induction q with
 |zero=>intro p hp _ _;obtain rfl:p=0:=Zo;rfl
 |succ q ih=>
  intro p hp hq hn;by_cases h:p=q+1
  ·subst h;rfl
  rw[←ih p Zo Zo fun k h1 h2=>hn k h1 Zo];rw[(T.step q Zo).env];have hq':=hn q Zo Zo;unfold St.put;split
  ·rename_i d hd;have:(t==d)=false:=by simp;rintro rfl;exact hq' hd
   rw[YE];simp only[this]
  rfl
def TRun.envPut(T:TRun C P ops m S v f){t k:Nat}(hk:k<m)(h:zfC ops k=some t):(S (k+1)).env.lookup t=some (v k):=by rw[(T.step k hk).env,h];simp[St.put]
def born(S:Nat→St)(m:Nat)(b:Nat):∀p,p≤m→b<(S p).h.next→b<(S 0).h.next∨∃k,k<p∧(S k).h.next≤b∧b<(S (k+1)).h.next:=by
 intro p;induction p with
 |zero=>intro _ h;exact .inl h
 |succ p ih=>
  intro hp hb;by_cases h:b<(S p).h.next
  ·exact(ih Zo h).imp id fun⟨k,h1,h2⟩=>⟨k,Zo,h2⟩
  exact .inr ⟨p,Zo,Zo,hb⟩
def zdw(S:Nat→St)(f:Nat→Foot)(m:Nat)(L:Nat→Prop)(b p:Nat):Prop:=p≤m∧∀k,k<m→touch S f k b→(L k↔k<p)
def condt(ops:Array Oper)(m:Nat)(L:Nat→Prop)(t p:Nat):Prop:=p≤m∧∀k,k<m→zfC ops k=some t→(L k↔k<p)
structure SInv(C:Cfg)(ops:Array Oper)(m:Nat)(S:Nat→St)(f:Nat→Foot)(gS:G)(base:Nat)(wS:World)(WA:ZN)(L:Nat→Prop)(g:G)(a:Act)(w:World):Prop where
 le:gS.le g
 frz:∀c arr,g.phi c=some arr→∃t fr,w.heap[c]? =some (.cells arr t fr)
 dom:∀b T,g.mu b=some T→(b<(S 0).h.next∨∃k,L k∧(S k).h.next≤b∧b<(S (k+1)).h.next)∧base≤T.c∧T.c<w.heap.size
 cont:∀b p x,zdw S f m L b p→(S p).h.get b=some x→∃T o,g.mu b=some T∧g.phi T.c=none∧w.heap[T.c]? =some o∧BlkRel (g.cut (S p).h.next) x T o
 inj:∀b b' p p' x x' T T',zdw S f m L b p→zdw S f m L b' p'→(S p).h.get b=some x→(S p').h.get b'=some x'→g.mu b=some T→g.mu b'=some T'→T.c=T'.c→b=b'
 newmu:∀b T,g.mu b=some T→gS.mu b=some T∨((S 0).h.next≤b∧(wS.heap.size≤T.c∨∃b0∈WA,∃T0,gS.mu b0=some T0∧T0.c=T.c))
 newphi:∀c ar,g.phi c=some ar→gS.phi c=some ar∨wS.heap.size≤c
 frame:∀c,c<wS.heap.size→(∀b∈WA,∀T,gS.mu b=some T→T.c≠c)→w.heap[c]? =wS.heap[c]?
 size:wS.heap.size≤w.heap.size
 os:w.os=wS.os
 tape:Tp wS w
 output:w.output=wS.output
 base:base≤wS.heap.size
 glob:GOK g
 tmps:a.tmps.size=C.nt
 env:∀t p u,condt ops m L t p→(S p).env.lookup t=some u→VRel (g.cut (S p).h.next) u (a.tmps.getD t undef)
 defers:a.defers=C.dl
def SInv.start {gS:G}{base:Nat}{wS:World}{WA:ZN}{a:Act}(T:TRun C P ops m S v f)(hI:Inv gS base (S 0).h (fun _=>True) wS)(he:EnvRel gS C.nt (S 0).env a)(hd:a.defers=C.dl):SInv C ops m S f gS base wS WA (fun _=>False) gS a wS:=by
 have hcut:∀p,p≤m→gS.le (gS.cut (S p).h.next):=fun p hp=>⟨fun b U e=>G.cut_some.2 ⟨Yu (hI.dom b U e).1 (T.next_mono p 0 (Yk _) hp),e⟩,fun _ _ e=>e⟩;have h0:∀b p x,zdw S f m (fun _=>False) b p→(S p).h.get b=some x→(S 0).h.get b=some x:=by
  intro b p x hc e;have nt:∀k,k<p→¬touch S f k b:=fun k hk ht=>((hc.2 k (by have:=hc.1;omega) ht).2 hk).elim;by_cases hb:b<(S 0).h.next
  ·rw[←T.same b p 0 (Yk _) hc.1 hb fun k _ hk=>nt k hk];exact e
  rcases born S m b p hc.1 (T.keysAt p hc.1 b x e)with h|⟨k,hk,h⟩
  ·exact absurd h hb
  exact absurd (.inr h) (nt k hk)
 refine⟨gS.le_refl,hI.frz,fun b U e=>⟨.inl (hI.dom b U e).1,(hI.dom b U e).2⟩,?_,?_,fun b U e=>.inl e,fun c ar e=>.inl e,fun _ _ _=>rfl,Yc _,rfl,.refl _,rfl,hI.base,he.glob,he.size,?_,hd⟩
 ·intro b p x hc e;obtain⟨U,o,e1,e2,e3,e4⟩:=hI.cont b x trivial (h0 b p x hc e);exact⟨U,o,e1,e2,e3,e4.mono (hcut p hc.1)⟩
 ·intro b b' p p' x x' U U' hc hc' e e' m1 m2 ec;exact hI.inj b b' x x' U U' trivial trivial (h0 b p x hc e) (h0 b' p' x' hc' e') m1 m2 ec
 intro t p u hc e;have:(S 0).env.lookup t=some u:=by rw[←T.envAt t p 0 (Yk _) hc.1 fun k _ hk hd=>((hc.2 k (by have:=hc.1;omega) hd).2 hk).elim];exact e
 exact(he.rel t u this).mono (hcut p hc.1)
structure Late(C:Cfg)(P:Program)(ops:Array Oper)(m:Nat)(S:Nat→St)(v:Nat→V)(f:Nat→Foot)(i j b:Nat):Prop where
 no:(f i).W=[]
 heap:(S (i+1)).h=(S i).h
 next:(S (j+1)).h.next=(S i).h.next
 alt:∃x,(S (j+1)).h.get b=some x∧StepOK C P ops i ⟨(S i).env,(S i).h.put b x⟩ ⟨(S (i+1)).env,(S i).h.put b x⟩ (v i) (f i)
 only:∀k b',k<m→touch S f k b'→(b'∈(f i).R)→i<k→(k=j∧b'=b)∨Bef ops i k
def Late.no_touch {i j b:Nat}(h:Late C P ops m S v f i j b)(b':Nat):¬touch S f i b':=by
 rintro(ht|ht)
 ·rw[h.no]at ht;cases ht
 rw[h.heap]at ht;omega
def Ordered(C:Cfg)(P:Program)(ops:Array Oper)(m:Nat)(S:Nat→St)(v:Nat→V)(f:Nat→Foot):Prop:=
 ∀i j b,i<j→j<m→((touch S f i b∧(b∈(f j).R∨touch S f j b))∨(b∈(f i).R∧touch S f j b))→Bef ops i j∨Late C P ops m S v f i j b
def Closed(ops:Array Oper)(L:Nat→Prop):Prop:=∀i j,L j→Bef ops i j→L i
def SInv.next {gS:G}{base:Nat}{wS:World}{WA:ZN}{L:Nat→Prop}{g:G}{a:Act}{w:World}(T:TRun C P ops m S v f)(ho:Ordered C P ops m S v f)(hWA:∀k,k<m→∀b∈(f k).W,b∈WA) (I:SInv C ops m S f gS base wS WA L g a w) (hcl:Closed ops L) (hLm:∀k,L k→k<m) {j:Nat} (hj:j<m) (hjL:¬L j) (hrd:∀i,Bef ops i j→L i) (K:Act→World→Prop) (hK:∀g' a' w',SInv C ops m S f gS base wS WA (fun k=>L k∨k=j) g' a' w'→K a' w') (Q:Exit→Act→World→Prop):wpOp P ops Q j K a w:=by
 obtain⟨oj,hoj⟩:∃o,ops[j]? =some o:=⟨ops[j]'(Yu hj T.hm),by simp[Yu hj T.hm]⟩;have st:=T.step j hj;have hdst:zfC ops j=oj.dst:=by simp[zfC,hoj]
 have hot:∀i j b,i<j→j<m→touch S f i b→(b∈(f j).R∨touch S f j b)→Bef ops i j:=fun i j b h1 h2 h3 h4=>
  (ho i j b h1 h2 (.inl ⟨h3,h4⟩)).resolve_right fun hl=>hl.no_touch b h3
 have cbT:∀b,touch S f j b→zdw S f m L b j:=by
  intro b hb;refine⟨Zo,fun k hk ht=>⟨fun hL=>?_,fun hlt=>hrd k (hot k j b hlt hj ht (.inr hb))⟩⟩;rcases Ya5 k j with h|h|h
  ·exact h
  ·subst h;exact absurd hL hjL
  exact absurd (hcl j k hL (hot j k b h hk hb (.inr ht))) hjL
 have ct:∀t,t∈zfA ops oj→condt ops m L t j:=by
  intro t ht;refine⟨Zo,fun k hk hd=>?_⟩;obtain⟨ok,hok⟩:∃o,ops[k]? =some o:=⟨ops[k]'(Yu hk T.hm),by simp[Yu hk T.hm]⟩;have hdk:ok.dst=some t:=by simpa[zfC,hok]using hd
  by_cases hkj:k=j
  ·subst hkj;exact⟨fun h=>absurd h hjL,fun h=>absurd h (Nat.lt_irrefl _)⟩
  have hord:=ziQ T.ok hoj hok (Ne.symm hkj) hdk ht;constructor
  ·intro hL;by_cases h:k<j
   ·exact h
   exact absurd (hcl j k hL (hord.2 Zo)) hjL
  intro h;exact hrd k (hord.1 h)
 have opr:OpsRel (g.cut (S j).h.next) C.nt ops oj (S j).env a:=
  ⟨I.glob,I.tmps,fun t ht u e=>I.env t j u (ct t (YJ _ ht)) e⟩
 have fin:∀(D:Nat→Prop),(∀b,touch S f j b→D b∨(S j).h.next≤b)→∀g' w' vc,VRel g' (v j) vc→Post (g.cut (S j).h.next) g' base (S j).h (S (j+1)).h D (f j).W w w'→K (a.put oj.dst vc) w':=by
  intro D dj g' w' vc hv hp;let gn:G:={ mu:=fun b=>if b<(S (j+1)).h.next then g'.mu b else g.mu b,phi:=g'.phi }
  have hmono:(S j).h.next≤(S (j+1)).h.next:=st.stat.next;have unborn:∀b,(S j).h.next≤b→b<(S (j+1)).h.next→g.mu b=none:=by
   intro b h1 h2;cases e:g.mu b with
   |none=>rfl
   |some U=>
    rcases(I.dom b U e).1 with h|⟨k,hk,h3,h4⟩
    ·have:=T.next_mono j 0 (Yk _) Zo;omega
    have hkm:=hLm k hk;rcases Ya5 k j with h|h|h
    ·have:=T.next_mono j (k+1) Zo Zo;omega
    ·subst h;exact absurd hk hjL
    have:=T.next_mono k (j+1) Zo Zo;omega
  have gn_some:∀b U,gn.mu b=some U↔(b<(S (j+1)).h.next∧g'.mu b=some U)∨((S (j+1)).h.next≤b∧g.mu b=some U):=by
   intro b U;show (if b<(S (j+1)).h.next then g'.mu b else g.mu b)=some U↔_;split
   ·rename_i h;exact⟨fun e=>.inl ⟨h,e⟩,fun e=>by rcases e with⟨_,e⟩|⟨h',_⟩;exact e;omega⟩
   rename_i h;exact⟨fun e=>.inr ⟨Zo,e⟩,fun e=>by rcases e with⟨h',_⟩|⟨_,e⟩;omega;exact e⟩
  have hle:g.le gn:=by
   refine⟨fun b U e=>(gn_some b U).2 ?_,fun c ar e=>hp.le.2 c ar e⟩;by_cases h:b<(S j).h.next
   ·exact .inl ⟨Zo,hp.le.1 b U (G.cut_some.2 ⟨h,e⟩)⟩
   by_cases h2:b<(S (j+1)).h.next
   ·rw[unborn b Zo h2]at e;cases e
   exact .inr ⟨Zo,e⟩
  have hcut:g'.le (gn.cut (S (j+1)).h.next):=
   ⟨fun b U e=>G.cut_some.2 ⟨(hp.inv.dom b U e).1,(gn_some b U).2 (.inl ⟨(hp.inv.dom b U e).1,e⟩)⟩,fun _ _ e=>e⟩
  have up:∀b p,zdw S f m (fun k=>L k∨k=j) b p→¬touch S f j b→zdw S f m L b p:=by intro b p hc ht;refine⟨hc.1,fun k hk h=>?_⟩;have:=hc.2 k hk h;exact⟨fun e=>this.1 (.inl e),fun e=>by rcases this.2 e with h'|h';exact h';subst h';exact absurd h ht⟩
  have upj:∀b p,zdw S f m (fun k=>L k∨k=j) b p→touch S f j b→j<p∧∀k,j<k→k<p→¬touch S f k b:=by
   intro b p hc ht;refine⟨(hc.2 j hj ht).1 (.inr rfl),fun k h1 h2 hk=>?_⟩;have hkm:k<m:=by have:=hc.1;omega
   have hL:L k:=by rcases(hc.2 k hkm hk).2 h2 with h|h;exact h;omega
   exact absurd (hcl j k hL (hot j k b h1 hkm ht (.inr hk))) hjL
  have upget:∀b p,zdw S f m (fun k=>L k∨k=j) b p→touch S f j b→(S p).h.get b=(S (j+1)).h.get b:=by
   intro b p hc ht;obtain⟨h1,h2⟩:=upj b p hc ht;refine T.same b p (j+1) Zo hc.1 ?_ fun k hk1 hk2=>h2 k Zo hk2;rcases ht with ht|ht
   ·obtain⟨x,hx⟩:=st.stat.live b ht;have:=T.keysAt j Zo b x hx;omega
   exact ht.2
  have wlive:∀b0∈(f j).W,∃x0,(S j).h.get b0=some x0∧zdw S f m L b0 j:=fun b0 hb=>by obtain⟨x0,hx⟩:=st.stat.live b0 hb;exact⟨x0,hx,cbT b0 (.inl hb)⟩
  have tlt:∀b,touch S f j b→b<(S (j+1)).h.next:=fun b ht=>by
   rcases ht with ht|ht
   ·obtain⟨x,hx⟩:=st.stat.live b ht;have:=T.keysAt j Zo b x hx;omega
   exact ht.2
  have gn_old:∀b U, ¬touch S f j b→gn.mu b=some U→g.mu b=some U:=by
   intro b U ht e;rcases(gn_some b U).1 e with⟨h1,e⟩|⟨_,e⟩
   ·rcases hp.newmu b U e with e'|⟨h2,_⟩
    ·exact(G.cut_some.1 e').2
    exact absurd (.inr ⟨h2,h1⟩) ht
   exact e
  have apart:∀b p x U, ¬touch S f j b→zdw S f m L b p→(S p).h.get b=some x→g.mu b=some U→∀b0∈(f j).W,∀U0,(g.cut (S j).h.next).mu b0=some U0→U0.c≠U.c:=by intro b p x U ht hc e hm b0 hb0 U0 hm0 ec;obtain⟨x0,hx0,hc0⟩:=wlive b0 hb0;have:=I.inj b0 b j p x0 x U0 U hc0 hc hx0 e (G.cut_some.1 hm0).2 hm ec;subst this;exact ht (.inl hb0)
  refine hK gn _ _ ⟨G.le_trans I.le hle,hp.inv.frz,?_,?_,?_,?_,?_,?_,Yw I.size hp.size,hp.os.trans I.os,hp.tape.trans I.tape,hp.output.trans I.output,I.base,I.glob.mono hle.2,?_,?_,?_⟩
  ·intro b U e;rcases(gn_some b U).1 e with⟨h1,e⟩|⟨h1,e⟩
   ·refine⟨?_,(hp.inv.dom b U e).2⟩;rcases hp.newmu b U e with e'|⟨h2,_⟩
    ·exact(I.dom b U (G.cut_some.1 e').2).1.imp id fun⟨k,hk,r⟩=>⟨k,.inl hk,r⟩
    exact .inr ⟨j,.inr rfl,h2,h1⟩
   have:=I.dom b U e;exact⟨this.1.imp id fun⟨k,hk,r⟩=>⟨k,.inl hk,r⟩,this.2.1,Yu this.2.2 hp.size⟩
  ·intro b p x hc e;by_cases ht:touch S f j b
   ·rw[upget b p hc ht]at e;obtain⟨U,o,e1,e2,e3,e4⟩:=hp.inv.cont b x (dj b ht) e;have h1:=(upj b p hc ht).1;exact⟨U,o,(gn_some b U).2 (.inl ⟨tlt b ht,e1⟩),e2,e3,e4.mono (G.le_trans hcut (Xx gn (T.next_mono p (j+1) Zo hc.1)))⟩
   have hc':=up b p hc ht;obtain⟨U,o,e1,e2,e3,e4⟩:=I.cont b p x hc' e;have hlt:=(I.dom b U e1).2.2;refine⟨U,o,hle.1 _ _ e1,?_,?_,e4.mono (Xs hle _)⟩
   ·cases e5:gn.phi U.c with
    |none=>rfl
    |some ar=>
     rcases hp.newphi U.c ar e5 with e6|e6
     ·have e6':g.phi U.c=some ar:=e6;rw[e2]at e6';cases e6'
     omega
   rw[hp.frame U.c hlt fun b0 hb0 U0 hm0=>apart b p x U ht hc' e e1 b0 hb0 U0 hm0];exact e3
  ·intro b b' p p' x x' U U' hc hc' e e' m1 m2 ec;by_cases ht:touch S f j b<;>by_cases ht':touch S f j b'
   ·rw[upget b p hc ht]at e;rw[upget b' p' hc' ht']at e';have k1:g'.mu b=some U:=by
     rcases(gn_some b U).1 m1 with⟨_,h⟩|⟨h,_⟩
     ·exact h
     have:=tlt b ht;omega
    have k2:g'.mu b'=some U':=by
     rcases(gn_some b' U').1 m2 with⟨_,h⟩|⟨h,_⟩
     ·exact h
     have:=tlt b' ht';omega
    exact hp.inv.inj b b' x x' U U' (dj b ht) (dj b' ht') e e' k1 k2 ec
   ·exfalso;have k1:g'.mu b=some U:=by
     rcases(gn_some b U).1 m1 with⟨_,h⟩|⟨h,_⟩
     ·exact h
     have:=tlt b ht;omega
    have k2:=gn_old b' U' ht' m2;have c2:=up b' p' hc' ht';rcases hp.newmu b U k1 with h|⟨_,h|⟨b0,hb0,U0,h0,ec0⟩⟩
    ·rcases ht with ht|ht
     ·exact apart b' p' x' U' ht' c2 e' k2 b ht U h ec
     have:=(G.cut_some.1 h).1;omega
    ·have:=(I.dom b' U' k2).2.2;omega
    exact apart b' p' x' U' ht' c2 e' k2 b0 hb0 U0 h0 (ec0.trans ec)
   ·exfalso;have k1:=gn_old b U ht m1;have c1:=up b p hc ht;have k2:g'.mu b'=some U':=by
     rcases(gn_some b' U').1 m2 with⟨_,h⟩|⟨h,_⟩
     ·exact h
     have:=tlt b' ht';omega
    rcases hp.newmu b' U' k2 with h|⟨_,h|⟨b0,hb0,U0,h0,ec0⟩⟩
    ·rcases ht' with ht'|ht'
     ·exact apart b p x U ht c1 e k1 b' ht' U' h ec.symm
     have:=(G.cut_some.1 h).1;omega
    ·have:=(I.dom b U k1).2.2;omega
    exact apart b p x U ht c1 e k1 b0 hb0 U0 h0 (ec0.trans ec.symm)
   exact I.inj b b' p p' x x' U U' (up b p hc ht) (up b' p' hc' ht') e e' (gn_old b U ht m1) (gn_old b' U' ht' m2) ec
  ·intro b U e;rcases(gn_some b U).1 e with⟨h1,e⟩|⟨h1,e⟩
   ·rcases hp.newmu b U e with e'|⟨h2,h3⟩
    ·exact I.newmu b U (G.cut_some.1 e').2
    refine .inr ⟨Yw (T.next_mono j 0 (Yk _) Zo) h2,?_⟩;rcases h3 with h3|⟨b0,hb0,U0,h0,ec0⟩
    ·exact .inl (Yw I.size h3)
    rcases I.newmu b0 U0 (G.cut_some.1 h0).2 with h4|⟨_,h4|⟨b1,hb1,U1,h5,ec1⟩⟩
    ·exact .inr ⟨b0,hWA j hj b0 hb0,U0,h4,ec0⟩
    ·exact .inl (ec0▸h4)
    exact .inr ⟨b1,hb1,U1,h5,ec1.trans ec0⟩
   exact I.newmu b U e
  ·intro c ar e;rcases hp.newphi c ar e with h|h
   ·exact I.newphi c ar h
   exact .inr (Yw I.size h)
  ·intro c hc hf;rw[hp.frame c (Yu hc I.size) ?_,I.frame c hc hf];intro b0 hb0 U0 h0 ec0;rcases I.newmu b0 U0 (G.cut_some.1 h0).2 with h4|⟨_,h4|⟨b1,hb1,U1,h5,ec1⟩⟩
   ·exact hf b0 (hWA j hj b0 hb0) U0 h4 ec0
   ·omega
   exact hf b1 hb1 U1 h5 (ec1.trans ec0)
  ·cases oj.dst<;>simp[Act.put,I.tmps]
  ·intro t p u hc e;by_cases hd:zfC ops j=some t
   ·have hjp:j<p:=(hc.2 j hj hd).1 (.inr rfl);have hno:∀k,j+1≤k→k<p→zfC ops k≠some t:=by
     intro k h1 h2 hk;have hkm:k<m:=by have:=hc.1;omega
     have hL:L k:=by rcases(hc.2 k hkm hk).2 h2 with h|h;exact h;omega
     obtain⟨ok,hok⟩:∃o,ops[k]? =some o:=⟨ops[k]'(Yu hkm T.hm),by simp[Yu hkm T.hm]⟩;have hdk:ok.dst=some t:=by simpa[zfC,hok]using hk
     have hn:t∈zfA ops oj:=YC _ (by rw[←hdst,hd];simp);exact absurd (hcl j k hL ((ziQ T.ok hoj hok Zo hdk hn).2 Zo)) hjL
    rw[T.envAt t p (j+1) Zo hc.1 hno,T.envPut hj hd]at e;cases e;have hdt:oj.dst=some t:=by rw[←hdst];exact hd
    have hlt:t<a.tmps.size:=by rw[I.tmps];exact T.dsts oj (YV (by rw[YF];exact hoj)) t hdt
    rw[hdt];have:(a.put (some t) vc).tmps.getD t undef=vc:=by simp[Act.put,hlt]
    rw[this];exact hv.mono (G.le_trans hcut (Xx gn (T.next_mono p (j+1) Zo hc.1)))
   have hc':condt ops m L t p:=⟨hc.1,fun k hk h=>by have:=hc.2 k hk h;exact⟨fun e=>this.1 (.inl e),fun e=>by rcases this.2 e with h'|h';exact h';subst h';exact absurd h hd⟩⟩;have hr:=(I.env t p u hc' e).mono (Xs hle _);have:(a.put oj.dst vc).tmps.getD t undef=a.tmps.getD t undef:=by
    rw[hdst]at hd;cases hdo:oj.dst with
    |none=>rfl
    |some d=>have hne:d≠t:=fun e=>hd (by rw[hdo,e]);simp[Act.put,YU,YaE hne]
   rw[this];exact hr
  cases oj.dst<;>exact I.defers
 have lateNo:(∃k b,k<m∧L k∧j<k∧touch S f k b∧b∈(f j).R∧Late C P ops m S v f j k b)∨∀b,b∈(f j).R→zdw S f m L b j:=by
  by_cases hl:∃k b,k<m∧L k∧j<k∧touch S f k b∧b∈(f j).R∧Late C P ops m S v f j k b
  ·exact .inl hl
  refine .inr fun b hb=>⟨Zo,fun k hk ht=>⟨fun hL=>?_,fun hlt=>hrd k (hot k j b hlt hj ht (.inl hb))⟩⟩;rcases Ya5 k j with h|h|h
  ·exact h
  ·subst h;exact absurd hL hjL
  rcases ho j k b h hk (.inr ⟨hb,ht⟩)with hB|hB
  ·exact absurd (hcl j k hL hB) hjL
  exact absurd ⟨k,b,hk,hL,h,ht,hb,hB⟩ hl
 rcases lateNo with⟨k,b,hk,hLk,hjk,htk,hbR,late⟩|cbR
 ·obtain⟨x,hx,sx⟩:=late.alt;have hnx:=late.next;have hbn:b<(S j).h.next:=by rw[←hnx];exact T.keysAt (k+1) Zo b x hx
  have cbk:zdw S f m L b (k+1):=by
   refine⟨Zo,fun k' hk' ht'=>⟨fun hL=>?_,fun hlt=>?_⟩⟩
   ·refine Nat.lt_of_not_le fun hge=>?_;rcases late.only k' b hk' ht' hbR (by omega)with⟨h,_⟩|h
    ·omega
    exact hjL (hcl j k' hL h)
   by_cases h:k'=k
   ·subst h;exact hLk
   exact hcl k' k hLk (hot k' k b Zo hk ht' (.inr htk))
  have cbo:∀b',b'∈(f j).R→b'≠b→zdw S f m L b' j:=by
   intro b' hb' hne;refine⟨Zo,fun k' hk' ht'=>⟨fun hL=>?_,fun hlt=>hrd k' (hot k' j b' hlt hj ht' (.inl hb'))⟩⟩;rcases Ya5 k' j with h|h|h
   ·exact h
   ·subst h;exact absurd hL hjL
   rcases late.only k' b' hk' ht' hb' h with⟨_,h2⟩|h2
   ·exact absurd h2 hne
   exact absurd (hcl j k' hL h2) hjL
  have hRW:∀b',b'∈(f j).R++(f j).W→b'∈(f j).R:=fun b' hb'=>by
   rcases Yam.1 hb' with h|h
   ·exact h
   rw[late.no]at h;cases h
  have pick:∀b' y,b'∈(f j).R→((S j).h.put b x).get b'=some y→∃p,zdw S f m L b' p∧(S p).h.get b'=some y∧(S p).h.next=(S j).h.next:=by
   intro b' y hb' e;rw[Xd]at e;by_cases h:b'=b
   ·subst h;rw[Yi rfl]at e;obtain⟨_,_,rfl⟩:=YN.1 e;exact⟨k+1,cbk,hx,hnx⟩
   rw[Ye h]at e;exact⟨j,cbo b' hb' h,e,rfl⟩
  have view:Inv (g.cut (S j).h.next) base ((S j).h.put b x) (fun b'=>b'∈(f j).R++(f j).W) w:=by
   refine⟨I.frz,fun b' U e=>⟨(G.cut_some.1 e).1,(I.dom b' U (G.cut_some.1 e).2).2⟩,fun b' y e=>?_,fun b' y hd e=>?_,fun b1 b2 x1 x2 U U' hd hd' e e' m1 m2 ec=>?_,Yw I.base I.size⟩
   ·rw[Xd]at e;by_cases h:b'=b
    ·subst h;exact hbn
    rw[Ye h]at e;exact T.keysAt j Zo b' y e
   ·obtain⟨p,c1,c2,c3⟩:=pick b' y (hRW b' hd) e;obtain⟨U,o,e1,e2,e3,e4⟩:=I.cont b' p y c1 c2;rw[c3]at e4;exact⟨U,o,G.cut_some.2 ⟨by rw[←c3];exact T.keysAt p c1.1 b' y c2,e1⟩,e2,e3,e4⟩
   obtain⟨p1,c1,c2,_⟩:=pick b1 x1 (hRW b1 hd) e;obtain⟨p2,d1,d2,_⟩:=pick b2 x2 (hRW b2 hd') e';exact I.inj b1 b2 p1 p2 x1 x2 U U' c1 d1 c2 d2 (G.cut_some.1 m1).2 (G.cut_some.1 m2).2 ec
  refine sx.exec oj hoj _ base _ w a K Q view opr (fun b hb=>hb) fun g' w' vc hv hp=>fin (fun _=>False) (fun b' ht=>absurd ht (late.no_touch b')) g' w' vc hv ?_;have hh:=late.heap;refine⟨hp.le,⟨hp.inv.frz,fun b' U e=>?_,T.keysAt (j+1) Zo,fun b' y hd e=>?_,fun b1 b2 x1 x2 U U' hd _ e _ _ _ _=>?_,hp.inv.base⟩,hp.newmu,hp.newphi,hp.frame,hp.size,hp.os,hp.tape,hp.output,fun b' _ _=>by rw[hh],by rw[hh];exact Yc _⟩
  ·rw[hh];exact hp.inv.dom b' U e
  ·have h1:=T.keysAt (j+1) Zo b' y e;rw[hh]at h1;rcases hd with hd|hd
   ·exact hd.elim
   omega
  have h1:=T.keysAt (j+1) Zo b1 x1 e;rw[hh]at h1;rcases hd with hd|hd
  ·exact hd.elim
  omega
 have cb:∀b,(b∈(f j).R∨touch S f j b)→zdw S f m L b j:=fun b hb=>hb.elim (cbR b) (cbT b);have wj:∀b∈(f j).W,touch S f j b:=fun b hb=>.inl hb;have view:Inv (g.cut (S j).h.next) base (S j).h (fun b=>b∈(f j).R++(f j).W) w:=by
  have cb':∀b,b∈(f j).R++(f j).W→zdw S f m L b j:=fun b hb=>cb b (by
   rcases Yam.1 hb with h|h
   ·exact .inl h
   exact .inr (.inl h))
  refine⟨I.frz,fun b U e=>⟨(G.cut_some.1 e).1,(I.dom b U (G.cut_some.1 e).2).2⟩,T.keysAt j Zo,fun b x hd e=>?_,fun b b' x x' U U' hd hd' e e' m1 m2 ec=>?_,Yw I.base I.size⟩
  ·obtain⟨U,o,e1,e2,e3,e4⟩:=I.cont b j x (cb' b hd) e;exact⟨U,o,G.cut_some.2 ⟨T.keysAt j Zo b x e,e1⟩,e2,e3,e4⟩
  exact I.inj b b' j j x x' U U' (cb' b hd) (cb' b' hd') e e' (G.cut_some.1 m1).2 (G.cut_some.1 m2).2 ec
 exact st.exec oj hoj _ base _ w a K Q view opr (fun b hb=>hb) fun g' w' vc hv hp=>fin _ (fun b ht=>by
  rcases ht with ht|ht
  ·exact .inl (YJ _ ht)
  exact .inr ht.1) g' w' vc hv hp
end
end Go.Ab
