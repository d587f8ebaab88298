/- A state may be told with less, and with other numbers for its blocks; memory of one's own that is handed out stands still. -/
import Derived.Test.YthbimeikbkjnkaaGreatDoorBAbDraw3
set_option linter.all false
namespace Go.Ab
inductive Pure:V→Prop
 |bool (b):Pure (.bool b)
 |int (k n):Pure (.int k n)
 |str (s):Pure (.str s)
 |nilS:Pure .nilS
 |fs {cs n} (h:∀ x∈cs,Pure x):Pure (.fs cs n)
 |nilP:Pure .nilP
 |fp {cs} (h:∀ x∈cs,Pure x):Pure (.fp cs)
 |nilM:Pure .nilM
 |fn {f cs} (h:∀ x∈cs,Pure x):Pure (.fn f cs)
 |nilF:Pure .nilF
 |ifc {t v} (h:Pure v):Pure (.ifc t v)
 |nilI:Pure .nilI
 |agg {cs} (h:∀ x∈cs,Pure x):Pure (.agg cs)
 |tup {cs} (h:∀ x∈cs,Pure x):Pure (.tup cs)
 |any:Pure .any
 |opt {b v} (h:Pure v):Pure (.opt b v)
theorem zO(b):Pure (.bool b)↔True:=⟨fun _=>trivial,fun _=>.bool b⟩
theorem zb0(k n):Pure (.int k n)↔True:=⟨fun _=>trivial,fun _=>.int k n⟩
theorem zT(s):Pure (.str s)↔True:=⟨fun _=>trivial,fun _=>.str s⟩
theorem zdQ:Pure .nilS↔True:=⟨fun _=>trivial,fun _=>.nilS⟩
theorem zg8:Pure .nilP↔True:=⟨fun _=>trivial,fun _=>.nilP⟩
theorem zg9:Pure .nilI↔True:=⟨fun _=>trivial,fun _=>.nilI⟩
theorem zfz(cs n):Pure (.fs cs n)↔∀ x∈cs,Pure x:=⟨fun h=>by cases h;assumption,.fs⟩
theorem zha(cs):Pure (.fp cs)↔∀ x∈cs,Pure x:=⟨fun h=>by cases h;assumption,.fp⟩
theorem zj3(f cs):Pure (.fn f cs)↔∀ x∈cs,Pure x:=⟨fun h=>by cases h;assumption,.fn⟩
theorem pure_ifc(t v):Pure (.ifc t v)↔Pure v:=⟨fun h=>by cases h;assumption,.ifc⟩
theorem zW(cs):Pure (.agg cs)↔∀ x∈cs,Pure x:=⟨fun h=>by cases h;assumption,.agg⟩
theorem zgr(cs):Pure (.tup cs)↔∀ x∈cs,Pure x:=⟨fun h=>by cases h;assumption,.tup⟩
theorem VRel.pure {g g':G}{v:V}{vc:Value}(hp:∀ c a,g.phi c=some a→g'.phi c=some a)(r:VRel g v vc)(h:Pure v):VRel g' v vc:=by
 have mem:∀ {l:List V} {i:Nat} {x:V},l[i]? =some x→x∈l:=fun e=>List.mem_of_getElem? e;induction r with
 |bool b=>exact .bool b
 |int k n=>exact .int k n
 |str hs=>exact .str hs
 |nilS=>exact .nilS
 |sl hm hl ho hk=>cases h
 |fs vs hf hl h1 _ ih=>exact .fs vs (hp _ _ hf) hl h1 fun i x e=>ih i x e ((zfz _ _).1 h x (mem e))
 |fs0 ha=>exact .fs0 ha
 |nilP=>exact .nilP
 |ptr hm=>cases h
 |fp vs hf h1 _ ih=>exact .fp vs (hp _ _ hf) h1 fun i x e=>ih i x e ((zha _).1 h x (mem e))
 |nilM=>exact .nilM
 |map hm=>cases h
 |fn vs hs h1 _ ih=>exact .fn vs hs h1 fun i x e=>ih i x e ((zj3 _ _).1 h x (mem e))
 |bnd vs hs h1 _ ih=>cases h
 |nilF=>exact .nilF
 |ifc _ ih=>exact .ifc (ih ((pure_ifc _ _).1 h))
 |nilI=>exact .nilI
 |agg vs hs h1 _ ih=>exact .agg vs hs h1 fun i x e=>ih i x e ((zW _).1 h x (mem e))
 |tup vs hs h1 _ ih=>exact .tup vs hs h1 fun i x e=>ih i x e ((zgr _).1 h x (mem e))
 |any v=>exact .any v
 |opt _ h2 ih=>cases h with|opt h=>exact .opt (fun e=>ih e h) h2
def LRel(R:V→V→Prop)(l l':List V):Prop:=l.length=l'.length∧∀(i:Nat) (x y:V),l[i]? =some x→l'[i]? =some y→R x y
inductive Rn(π:Nat→Nat)(N:Nat→Prop):V→V→Prop
 |same {v} (h:Pure v):Rn π N v v
 |any {v}:Rn π N .any v
 |nil0:Rn π N (.fs [] 0) .nilS
 |sl {b off len sz kc kc'} (hb:N b) (hk:kc'=none∨kc'=kc):Rn π N (.sl b off len sz kc') (.sl (π b) off len sz kc)
 |ptr {b off} (hb:N b):Rn π N (.ptr b off) (.ptr (π b) off)
 |map {b} (hb:N b):Rn π N (.map b) (.map (π b))
 |fn {f cs cs'} (hl:cs'.length=cs.length) (h:∀(i:Nat) (x y:V),cs'[i]? =some x→cs[i]? =some y→Rn π N x y):Rn π N (.fn f cs') (.fn f cs)
 |ifc {t v v'} (h:Rn π N v' v):Rn π N (.ifc t v') (.ifc t v)
 |agg {cs cs'} (hl:cs'.length=cs.length) (h:∀(i:Nat) (x y:V),cs'[i]? =some x→cs[i]? =some y→Rn π N x y):Rn π N (.agg cs') (.agg cs)
 |tup {cs cs'} (hl:cs'.length=cs.length) (h:∀(i:Nat) (x y:V),cs'[i]? =some x→cs[i]? =some y→Rn π N x y):Rn π N (.tup cs') (.tup cs)
theorem VRel.rn {g g':G}{π:Nat→Nat}{N:Nat→Prop}(hp:∀ c a,g.phi c=some a→g'.phi c=some a)(hm:∀ b,N b→g'.mu b=g.mu (π b)){v v':V}(h:Rn π N v' v):
 ∀ {vc:Value},VRel g v vc→VRel g' v' vc:=by
 induction h with
 |same h=>intro vc r;exact r.pure hp h
 |any=>intro vc r;exact .any _
 |nil0=>intro vc r;cases r;exact .fs0 fun _=>rfl
 |sl hb hk=>
  intro vc r
  obtain⟨T,o,cap,e,hl,ho,hc,rfl⟩:=r.inv_sl
  refine .sl (by rw [hm _ hb];exact e) hl ho fun k ek=>?_
  rcases hk with rfl|rfl
  ·cases ek
  ·exact hc k ek
 |ptr hb=>
  intro vc r
  obtain⟨T,e,rfl⟩:=r.inv_ptr
  exact .ptr (by rw [hm _ hb];exact e)
 |map hb=>
  intro vc r
  cases r with
  |map e=>exact .map (by rw [hm _ hb];exact e)
 |fn hl _ ih=>
  intro vc r
  obtain⟨arr,rfl,hs,p⟩:=r.inv_fn
  refine VRel.mk_fn (by omega) fun i x hx=>?_
  have hlt:=(List.getElem?_eq_some_iff.1 hx).1
  obtain⟨u,hu,ru⟩:=p i _ (List.getElem?_eq_getElem (by omega))
  exact⟨u,hu,ih i x _ hx (List.getElem?_eq_getElem (by omega)) ru⟩
 |ifc _ ih=>
  intro vc r
  cases r with
  |ifc hv=>exact .ifc (ih hv)
 |agg hl _ ih=>
  intro vc r
  obtain⟨arr,rfl,hs,p⟩:=r.inv_agg
  refine VRel.mk_agg (by omega) fun i x hx=>?_
  have hlt:=(List.getElem?_eq_some_iff.1 hx).1
  obtain⟨u,hu,ru⟩:=p i _ (List.getElem?_eq_getElem (by omega))
  exact⟨u,hu,ih i x _ hx (List.getElem?_eq_getElem (by omega)) ru⟩
 |tup hl _ ih=>
  intro vc r
  obtain⟨arr,rfl,hs,p⟩:=r.inv_tup
  refine VRel.mk_tup (by omega) fun i x hx=>?_
  have hlt:=(List.getElem?_eq_some_iff.1 hx).1
  obtain⟨u,hu,ru⟩:=p i _ (List.getElem?_eq_getElem (by omega))
  exact⟨u,hu,ih i x _ hx (List.getElem?_eq_getElem (by omega)) ru⟩
theorem PW.rn {g g':G}{π:Nat→Nat}{N:Nat→Prop}(hp:∀ c a,g.phi c=some a→g'.phi c=some a)(hm:∀ b,N b→g'.mu b=g.mu (π b)){l l':List V}(h:LRel (Rn π N) l' l){get:Nat→Option Value}
 (p:PW g l get):PW g' l' get:=by
 intro i x hx
 have hlt:=(List.getElem?_eq_some_iff.1 hx).1
 have hll:=h.1
 obtain⟨u,hu,ru⟩:=p i _ (List.getElem?_eq_getElem (by omega))
 exact⟨u,hu,ru.rn hp hm (h.2 i x _ hx (List.getElem?_eq_getElem (by omega)))⟩
inductive RnB(π:Nat→Nat)(N:Nat→Prop):Blk→Blk→Prop
 |cells {cs cs'} (h:LRel (Rn π N) cs' cs):RnB π N (.cells cs') (.cells cs)
 |mp {es es' clock} (hb:es'.map (·.1)=es.map (·.1)) (hk:LRel (Rn π N) (es'.map (·.2.1)) (es.map (·.2.1))) (hv:LRel (Rn π N) (es'.map (·.2.2)) (es.map (·.2.2))):RnB π N (.mp es' clock) (.mp es clock)
 |ty {t cs cs'} (h:LRel (Rn π N) cs' cs):RnB π N (.ty t cs') (.ty t cs)
 |it {m bs left since last cur} (h:N m):RnB π N (.it (some m) bs left since last cur) (.it (some (π m)) bs left since last cur)
theorem BlkRel.rn {g g':G}{π:Nat→Nat}{N:Nat→Prop}(hp:∀ c a,g.phi c=some a→g'.phi c=some a)(hm:∀ b,N b→g'.mu b=g.mu (π b)){x x':Blk}(h:RnB π N x' x){T:Tgt}{o:Obj}
 (r:BlkRel g x T o):BlkRel g' x' T o:=by
 cases h with
 |cells h=>
  cases r with
  |cells hs hb p=>exact .cells hs (by rw [h.1];exact hb) (p.rn hp hm h)
 |mp hb hk hv=>
  cases r with
  |mp hs pb pk pv=>exact .mp (by have:=hk.1;simp at this;omega) (pb.trans hb.symm) (pk.rn hp hm hk) (pv.rn hp hm hv)
 |ty h=>
  cases r with
  |ty hs hb hsh p=>exact .ty hs (by rw [h.1];exact hb) hsh (p.rn hp hm h)
 |it h=>
  cases r with
  |it hsh hmu hsn hcur=>exact .it hsh ((hm _ h).trans hmu) hsn hcur
structure SubP(nx:Nat)(Wm:List Nat)(π:Nat→Nat)(s s':St):Prop where
 env:∀ t v',s'.env.lookup t=some v'→v'=.any∨∃ v,s.env.lookup t=some v∧Rn π (· <s'.h.next) v' v
 heap:∀ b x',s'.h.get b=some x'→b<s'.h.next∧∃ x,s.h.get (π b)=some x∧RnB π (· <s'.h.next) x' x
 own:∀ b,if b<nx then π b=b else nx≤π b
 inj:∀ b b' x x',s'.h.get b=some x→s'.h.get b'=some x'→π b=π b'→b=b'
 elder:∀ b,b<nx→b∉Wm→s'.h.get b=s.h.get b
 next:nx≤s'.h.next
def Sub(C:Cfg)(s s':St):Prop:=∃ π,SubP C.nx C.Wm π s s'
theorem Rel.sub {C:Cfg}{base:Nat}{D:Nat→Prop}{g0:G}{H0:Hp}{w0:World}{g:G}{s s':St}{a:Act}{w:World}(he:Entry C base D g0 H0 w0)(r:Rel C base D g0 H0 w0 g s a w)(h:Sub C s s'):
 ∃ g',Rel C base D g0 H0 w0 g' s' a w:=by
 obtain⟨π,h⟩:=h
 let g':G:=⟨fun b=>if b<s'.h.next then g.mu (π b)else none,g.phi⟩
 have hp:∀ c a,g.phi c=some a→g'.phi c=some a:=fun _ _ e=>e
 have hm:∀ b,b<s'.h.next→g'.mu b=g.mu (π b):=fun b hb=>if_pos hb
 have hm':∀ b T,g'.mu b=some T→b<s'.h.next∧g.mu (π b)=some T:=by
  intro b T e;simp only [g']at e;split at e
  ·rename_i hb;exact⟨hb,e⟩
  ·cases e
 have own:∀ b,(b<C.nx→π b=b)∧(C.nx≤b→C.nx≤π b):=fun b=>by
  have:=h.own b;split at this
  ·exact⟨fun _=>this,fun _=>by omega⟩
  ·exact⟨fun _=>by omega,fun _=>this⟩
 have pnx:=he.nx
 refine⟨g',⟨⟨r.env.glob.mono hp,r.env.size,fun t v' e=>?_⟩,r.defers,?_⟩⟩
 ·rcases h.env t v' e with rfl|⟨v,ev,rn⟩
  ·exact .any _
  ·exact(r.env.rel t v ev).rn hp hm rn
 ·refine⟨?_,?_,?_,r.post.newphi,r.post.frame,r.post.size,r.post.os,r.post.tape,r.post.output,?_,?_⟩
  ·refine⟨fun b T e=>?_,r.post.le.2⟩
   have hb:=(he.inv.dom b T e).1
   rw [hm b (by have:=h.next;omega),(own b).1 (by omega)]
   exact r.post.le.1 b T e
  ·refine⟨r.post.inv.frz,fun b T e=>?_,fun b x e=>(h.heap b x e).1,fun b x _ e=>?_,fun b b' x x' T T' _ _ e e' m m' ec=>?_,r.post.inv.base⟩
   ·obtain⟨h1,h2⟩:=hm' b T e
    exact⟨h1,(r.post.inv.dom _ T h2).2⟩
   ·obtain⟨hb,y,hy,rn⟩:=h.heap b x e
    obtain⟨T,o,e1,e2,e3,e4⟩:=r.post.inv.cont _ y (he.inD _) hy
    exact⟨T,o,by rw [hm b hb];exact e1,e2,e3,e4.rn hp hm rn⟩
   ·obtain⟨hb,y,hy,_⟩:=h.heap b x e
    obtain⟨hb',y',hy',_⟩:=h.heap b' x' e'
    have:=r.post.inv.inj _ _ y y' T T' (he.inD _) (he.inD _) hy hy' (hm' b T m).2 (hm' b' T' m').2 ec
    exact h.inj b b' x x' e e' this
  ·intro b T e
   obtain⟨hb,e⟩:=hm' b T e
   rcases Nat.lt_or_ge b C.nx with hlt|hge
   ·rw [(own b).1 hlt]at e
    exact r.post.newmu b T e
   ·have h2:=(own b).2 hge
    rcases r.post.newmu _ T e with e0|⟨_,hc⟩
    ·have:=(he.inv.dom _ T e0).1;omega
    ·exact .inr ⟨by omega,hc⟩
  ·intro b hb hn
   rw [h.elder b (by omega) hn]
   exact r.post.aframe b hb hn
  ·have:=h.next;omega
end Go.Ab

namespace Go.Ab
structure LK where
 s:St
 v:V
 f:Foot
def LateK(r:SR)(h:Hp)(v:V)(f:Foot):Prop:=
 match r with
 | .ok _ pre v' h' f'=>pre∧v'=v∧h'=h∧f'=f
 |_=>False
def zrl(C:Cfg)(P:Program)(op:Op)(r:LK)(h:Hp)(f:Foot):Prop:=
 match f.W,h.get (f.W.headD 0)with
 |[b],some x=>h.next=r.s.h.next∧LateK (step1 C P r.s.env op (r.s.h.put b x)) (r.s.h.put b x) r.v r.f
 |_,_=>False
def isLk:Op→Bool
 | .lookup _ _ _ false=>true
 |_=>false
def isEn:Op→Bool
 | .mapEntry .. =>true
 |_=>false
def zid:List Oper→Nat→Option Nat
 |[],_=>none
 |o::os,j=>match isEn o.op with|true=>some j|false=>zid os (j+1)
def zie:List Oper→Nat→Option Op→Nat→Option (Nat×Op×Nat)
 |[],_,_,_=>none
 |o::os,i,_,j=>match isLk o.op with|true=>(match Nat.blt i j with|true=>some (i,o.op,j)|false=>none)|false=>zie os (i+1) none j
def ze6(os:List Oper):Option (Nat×Op×Nat):=
 match zid os 0 with
 |none=>none
 |some j=>zie os 0 none j
theorem ziY:∀ {os:List Oper} {i:Nat} {x:Option Op} {j:Nat} {q:Nat×Op×Nat},zie os i x j=some q→i≤q.1∧q.1<q.2.2∧q.2.2=j∧∃ o,os[q.1 - i]? =some o∧o.op=q.2.1
 |[],_,_,_,_,h=>by cases h
 |o::os,i,x,j,q,h=>by
  unfold zie at h;split at h
  ·split at h
   ·rename_i hb;cases h;exact⟨Nat.le_refl _,by simpa using hb,rfl,o,by simp,rfl⟩
   ·cases h
  ·obtain⟨h1,h2,h3,o',h4,h5⟩:=ziY h;refine⟨by omega,h2,h3,o',?_,h5⟩;rw [show q.1 - i=(q.1 - (i+1))+1 by omega];simpa using h4
def chkX(ops:Array Oper)(i0 j0:Nat)(feet:List (Nat×Foot)):Bool:=
 feet.all fun p=>feet.all fun q=> !decide (p.1<q.1)|| !clash p.2 q.2||(Nat.beq p.1 i0&&Nat.beq q.1 j0)||ordB (masks ops) p.1 q.1
def zAO(C:Cfg)(P:Program)(ops:Array Oper)(i0:Nat)(op0:Op)(j0:Nat):List Oper→Nat→St→List (Nat×Foot)→Option LK→(Out→St→Prop)→Prop
 |[],_,s,acc,_,K=>chkX ops i0 j0 acc=true∧K .norm s
 |o::os,i,s,acc,r,K=>
  o.guard=none∧
  match step1 C P s.env o.op s.h with
  | .ok _ pre v h f=>pre∧wok C f.W=true∧(if i=i0 then f.W=[]∧h=s.h else True)∧(if i=j0 then(match r with|some r=>zrl C P op0 r h f|none=>False)else True)∧
   zAO C P ops i0 op0 j0 os (i+1) ((s.put o.dst v).hp h) (accF acc i f) (if i=i0 then some ⟨s,v,f⟩else r) K
  |_=>False
section
variable {P:Program}{C:Cfg}{ops:Array Oper}
theorem ziB(hΓ:zcy P C){i:Nat}{o:Oper}{env:Env}{h h':Hp}{st:Bool}{pre:Prop}{v:V}{f:Foot}(ho:ops[i]? =some o)(hg:o.guard=none)
 (he:step1 C P env o.op h=.ok st pre v h' f) (hp:pre) (hw:wok C f.W=true):StepOK C P ops i ⟨env,h⟩ (((⟨env,h⟩:St).put o.dst v).hp h') v f:=by
 have sem:=zco hΓ ops o env h
 rw [he]at sem
 have hst:StepSem P C.nt ops o env h st v h' f:=sem hp
 refine⟨by rw [zmL ho];rfl,hst.stat,hw,hst.births,?_⟩
 intro o' ho' g base D w a next Q hI hO hD hn
 obtain rfl:=Option.some.inj (ho.symm.trans ho')
 exact zcm ho (by unfold Region.wanted;rw [hg]) (hst.exec g base D w a next Q hI hO hD hn)
structure LSpec(C:Cfg)(P:Program)(ops:Array Oper)(i0:Nat)(op0:Op)(j0:Nat)(i:Nat)(s:St)(acc:List (Nat×Foot))(r:Option LK)(K:Out→St→Prop)(S:Nat→St)(v:Nat→V)(f:Nat→Foot)(acc':List (Nat×Foot)):Prop where
 start:S i=s
 step:∀ k,i≤k→k<ops.size→StepOK C P ops k (S k) (S (k+1)) (v k) (f k)
 feet:∀ k,i≤k→k<ops.size→(f k).idle=true∨(k,f k)∈acc'
 old:∀ p∈acc,p∈acc'
 chk:chkX ops i0 j0 acc'=true
 fin:K .norm (S ops.size)
 here:i≤i0→i0<ops.size→(f i0).W=[]∧(S (i0+1)).h=(S i0).h∧(S (i0+1)).env=((S i0).put (zfK ops i0) (v i0)).env
 guard:∀ k o,i≤k→ops[k]? =some o→o.guard=none
 late:i≤j0→j0<ops.size→i0<j0→∃ lk,(if i≤i0 then lk=⟨S i0,v i0,f i0⟩else r=some lk)∧zrl C P op0 lk (S (j0+1)).h (f j0)
theorem zjo {K:Out→St→Prop}(hΓ:zcy P C){i0:Nat}{op0:Op}{j0:Nat}:∀(os:List Oper) (i:Nat),ops.toList.drop i=os→i≤ops.size→∀(s:St) (acc:List (Nat×Foot)) (r:Option LK),zAO C P ops i0 op0 j0 os i s acc r K→
 ∃ S v f acc',LSpec C P ops i0 op0 j0 i s acc r K S v f acc'
 |[],i,hd,hi,s,acc,r,h=>by
  have hn:i=ops.size:=by
   have:ops.toList.length≤i:=by simpa using hd
   simp at this;omega
  subst hn;refine⟨fun _=>s,fun _=>.any,fun _=>⟨[],[],0,0⟩,acc,rfl,fun k h1 h2=>by omega,fun k h1 h2=>by omega,fun p hp=>hp,h.1,h.2,fun h1 h2=>by omega,fun k o h1 ho=>?_,fun h1 h2=>by omega⟩;have:=(Array.getElem?_eq_some_iff.1 ho).1;omega
 |o::os,i,hd,hi,s,acc,r,h=>by
  have ho:ops[i]? =some o:=by
   have:(ops.toList.drop i)[0]? =some o:=by rw [hd];rfl
   rw [List.getElem?_drop]at this;rw [←Array.getElem?_toList];simpa using this
  have hilt:i<ops.size:=(Array.getElem?_eq_some_iff.1 ho).1;have hos:ops.toList.drop (i+1)=os:=by rw [←List.drop_drop,hd];rfl
  obtain⟨hg,h⟩:=h;split at h;rotate_left;·exact h.elim
  rename_i st pre vi h' fi he;obtain⟨hp,hw,ha,hb,h⟩:=h;obtain⟨S,v,f,acc',T⟩:=zjo hΓ os (i+1) hos hilt _ _ _ h;have hst:=ziB hΓ ho hg he hp hw;obtain⟨S',hSi,hS⟩:∃ S':Nat→St,S' i=s∧∀ k,i<k→S' k=S k:=⟨fun k=>if k≤i then s else S k,if_pos (Nat.le_refl _),fun k hk=>if_neg (by omega)⟩;obtain⟨v',hvi,hv⟩:∃ v':Nat→V,v' i=vi∧∀ k,i<k→v' k=v k:=⟨fun k=>if k=i then vi else v k,if_pos rfl,fun k hk=>if_neg (by omega)⟩;obtain⟨f',hfi,hf⟩:∃ f':Nat→Foot,f' i=fi∧∀ k,i<k→f' k=f k:=⟨fun k=>if k=i then fi else f k,if_pos rfl,fun k hk=>if_neg (by omega)⟩;refine⟨S',v',f',acc',hSi,fun k h1 h2=>?_,fun k h1 h2=>?_,fun p hp=>T.old p ?_,T.chk,?_,fun h1 h2=>?_,fun k ok h1 hk=>?_,fun h1 h2 h3=>?_⟩
  ·by_cases hk:k=i
   ·subst hk;rw [hS (k+1) (by omega),hSi,hvi,hfi,T.start];exact hst
   ·rw [hS k (by omega),hS (k+1) (by omega),hv k (by omega),hf k (by omega)];exact T.step k (by omega) h2
  ·by_cases hk:k=i
   ·subst hk;rw [hfi];by_cases hid:fi.idle=true
    ·exact .inl hid
    ·refine .inr (T.old _ ?_);unfold accF;rw [if_neg hid];exact List.mem_cons_self ..
   ·rw [hf k (by omega)];exact T.feet k (by omega) h2
  ·unfold accF;split
   ·exact hp
   ·exact List.mem_cons_of_mem _ hp
  ·rw [hS ops.size (by omega)];exact T.fin
  ·by_cases hk:i0=i
   ·subst hk;rw [if_pos rfl]at ha;rw [hS (i0+1) (by omega),hSi,hfi,hvi,T.start];refine⟨ha.1,?_,?_⟩
    ·show h'=s.h;exact ha.2
    ·rw [zmL ho];rfl
   ·rw [hS i0 (by omega),hS (i0+1) (by omega),hf i0 (by omega),hv i0 (by omega)];exact T.here (by omega) h2
  ·by_cases hk':k=i
   ·subst hk';obtain rfl:=Option.some.inj (ho.symm.trans hk);exact hg
   ·exact T.guard k ok (by omega) hk
  ·by_cases hj:j0=i
   ·subst hj;rw [if_pos rfl]at hb;split at hb
    ·rename_i lk;refine⟨lk,?_,?_⟩
     ·rw [if_neg (by omega)]
     ·rw [hS (j0+1) (by omega),hfi,T.start];exact hb
    ·exact hb.elim
   ·obtain⟨lk,k1,k2⟩:=T.late (by omega) h2 h3;rw [hS (j0+1) (by omega),hf j0 (by omega)];refine⟨lk,?_,k2⟩;by_cases hii:i0=i
    ·subst hii;rw [if_pos (Nat.le_refl _),hSi,hvi,hfi];rw [if_neg (by omega),if_pos rfl]at k1;exact(Option.some.inj k1).symm
    ·by_cases hle:i≤i0
     ·rw [if_pos hle,hS i0 (by omega),hv i0 (by omega),hf i0 (by omega)];rwa [if_pos (by omega)]at k1
     ·rw [if_neg hle];rwa [if_neg (by omega),if_neg (fun e=>hii e.symm)]at k1
theorem LSpec.toEnd {K:Out→St→Prop}(hΓ:zcy P C){i0:Nat}{op0:Op}{j0:Nat}{s:St}{S:Nat→St}{v:Nat→V}{f:Nat→Foot}{acc':List (Nat×Foot)}(T:LSpec C P ops i0 op0 j0 0 s [] none K S v f acc')
 (hok:zcu ops=true) (hk:∀ b x,s.h.get b=some x→b<s.h.next) (hd:∀ o∈ops.toList,∀ d,o.dst=some d→d<C.nt) (hij0:i0<j0) {o0:Oper} (ho0:ops[i0]? =some o0) (hop0:o0.op=op0):DEnd C P ops s K ops.size S v f:=by
 have R:TRun C P ops ops.size S v f:=⟨Nat.le_refl _,hok,fun k hk=>T.step k (Nat.zero_le _) hk,by rw [T.start];exact hk,hd⟩
 have ord:∀ i j b,i<j→j<ops.size→((touch S f i b∧(b∈(f j).R∨touch S f j b))∨(b∈(f i).R∧touch S f j b))→(i=i0∧j=j0)∨Bef ops i j:=by
  intro i j b hij hj hb;have hcl:=zkW R hij hj hb;have noidle:∀ {k:Nat},k<ops.size→(f k).idle=true→¬touch S f k b∧b∉(f k).R:=by
   intro k hk h;obtain⟨h1,h2,h3⟩:=zoK h;refine⟨?_,by rw [h1];simp⟩;rintro(ht|ht)
   ·rw [h2]at ht;cases ht
   ·have:=(R.step k hk).births b ht.1 ht.2;omega
  have fi:(i,f i)∈acc':=by
   rcases T.feet i (Nat.zero_le _) (by omega)with h|h
   ·have:=noidle (by omega) h;rcases hb with⟨h1,_⟩|⟨h1,_⟩
    ·exact absurd h1 this.1
    ·exact absurd h1 this.2
   ·exact h
  have fj:(j,f j)∈acc':=by
   rcases T.feet j (Nat.zero_le _) hj with h|h
   ·have:=noidle hj h;rcases hb with⟨_,h1|h1⟩|⟨_,h1⟩
    ·exact absurd h1 this.2
    ·exact absurd h1 this.1
    ·exact absurd h1 this.1
   ·exact h
  have h1:=List.all_eq_true.1 (List.all_eq_true.1 T.chk _ fi) _ fj;simp only [hij,decide_true,Bool.not_true,Bool.false_or,hcl,Bool.or_eq_true,Bool.and_eq_true,Nat.beq_eq]at h1;exact h1.imp id zcF
 refine⟨Nat.le_refl _,T.start,fun k hk=>T.step k (Nat.zero_le _) hk,fun i j b hij hj hb=>?_,.inl ⟨rfl,T.fin⟩⟩
 rcases ord i j b hij hj hb with⟨rfl,rfl⟩|h
 rotate_left;·exact .inl h
 refine .inr ?_
 obtain⟨g1,g2,g3⟩:=T.here (Nat.zero_le _) (by omega)
 obtain⟨lk,l1,l2⟩:=T.late (Nat.zero_le _) hj hij
 rw [if_pos (Nat.zero_le _)]at l1
 subst l1
 unfold zrl at l2
 split at l2
 rotate_left;·exact l2.elim
 rename_i b0 x hW hx
 obtain⟨hn,l2⟩:=l2
 rw [hW]at hx
 have hx':(S (j+1)).h.get b0=some x:=hx
 have nt:∀ b', ¬touch S f i b':=by
  rintro b' (ht|ht)
  ·rw [g1]at ht;cases ht
  ·rw [g2]at ht;omega
 have jt:∀ b',touch S f j b'→b'=b0:=by
  rintro b' (ht|ht)
  ·rw [hW]at ht;simpa using ht
  ·have h2:=R.next_mono j i (by omega) (by omega);have h3:(S (j+1)).h.next=(S i).h.next:=hn;omega
 have hbR:b∈(f i).R∧touch S f j b:=by
  rcases hb with⟨ht,_⟩|h
  ·exact absurd ht (nt b)
  ·exact h
 have hbb:=jt b hbR.2
 subst hbb
 refine⟨g1,g2,hn,⟨x,hx',?_⟩,fun k b' hk ht hbR' hik=>?_⟩
 ·unfold LateK at l2
  split at l2
  rotate_left;·exact l2.elim
  rename_i st pre v' h' f' he
  obtain⟨hp,rfl,rfl,rfl⟩:=l2
  rw [←hop0]at he
  have hst:=ziB (ops:=ops) hΓ ho0 (T.guard i o0 (Nat.zero_le _) ho0) he hp (R.step i (by omega)).wok
  have e5:(((⟨(S i).env,(S i).h.put b x⟩:St).put o0.dst (v i)).hp ((S i).h.put b x))=⟨(S (i+1)).env,(S i).h.put b x⟩:=by rw [g3,zmL ho0];cases o0.dst<;>rfl
  rw [e5]at hst
  exact hst
 ·rcases ord i k b' hik hk (.inr ⟨hbR',ht⟩)with⟨_,rfl⟩|h
  ·exact .inl ⟨rfl,jt b' ht⟩
  ·exact .inr h
end
end Go.Ab
