/- More shapes of calls at any heap: one that looks at the caller's block and hands a slice of it back; one that writes it and answers a scalar. -/
import Derived.Test.YthbimeikbkjnkaaGreatDoorAbWalk
import Derived.Test.YthbimeikbkjnkaaGreatDoorAbRules
set_option linter.all false
namespace Go.Ab
variable {P:Program}
theorem HCall.view1 {f:FuncId}{args:List V}{X:List V}{o n sz:Nat}(hN:NCall P f args [.cells X] [] (.sl 0 o n sz Option.none) ⟨[(0,.cells X)],1⟩)(hX:∀ x∈X,Pure x)
 (b:Nat) (args':List V) (H:Hp) (ha:LRel (Rn (fun i=>[b].getD i 0) (· <1)) args args') (hb:H.get b=some (.cells X)) (hk:∀ b x,H.get b=some x→b<H.next):
 HCall P f args' H ⟨True,.sl b o n sz Option.none,H,[b],[]⟩:=by
 have tc:zH [b] H.next b=0:=by unfold zH;rw [if_pos (hk b _ hb)];simp
 refine HCall.of hN [b] args' (.sl b o n sz Option.none) H H rfl (by simp) ha (fun i x hx=>?_) ?_ rfl (fun b' x' hx'=>?_) (fun b' hb' hw=>rfl)
 ·match i with
  |0=>cases hx;exact⟨b,_,rfl,hb,.cells (zt hX)⟩
  |i+1=>simp at hx
 ·have:=Rn.sl (π:=zH [b] H.next) (N:=fun b'=>b'∈[b]∨(H.next≤b'∧b'<H.next)) (b:=b) (off:=o) (len:=n) (sz:=sz) (kc:=Option.none) (kc':=Option.none) (.inl (by simp)) (.inl rfl)
  rwa [tc]at this
 ·by_cases he:b'=b
  ·subst he
   rw [hb]at hx'
   cases hx'
   refine .inr ⟨.inl (by simp),.cells X,?_,.cells (zt hX)⟩
   rw [tc];rfl
  ·exact .inl ⟨hk b' _ hx',by simpa using he,hx'⟩
theorem HCall.putS {f:FuncId}{args:List V}{X0 X:List V}{v:V}(hN:NCall P f args [.cells X0] [0] v ⟨[(0,.cells X)],1⟩)(hv:Pure v)(hX0:∀ x∈X0,Pure x)(hX:∀ x∈X,Pure x)
 (b:Nat) (args':List V) (H:Hp) (ha:LRel (Rn (fun i=>[b].getD i 0) (· <1)) args args') (hb:H.get b=some (.cells X0)) (hk:∀ b x,H.get b=some x→b<H.next):
 HCall P f args' H ⟨True,v,H.put b (.cells X),[b],[b]⟩:=by
 have tc:zH [b] H.next b=0:=by unfold zH;rw [if_pos (hk b _ hb)];simp
 refine HCall.of hN [b] args' v H (H.put b (.cells X)) rfl (by simp) ha (fun i x hx=>?_) (.same hv) rfl (fun b' x' hx'=>?_) (fun b' hb' hw=>?_)
 ·match i with
  |0=>cases hx;exact⟨b,_,rfl,hb,.cells (zt hX0)⟩
  |i+1=>simp at hx
 ·rw [Hp.get_put]at hx'
  split at hx'
  ·rename_i he
   subst he
   rw [hb]at hx'
   cases hx'
   refine .inr ⟨.inl (by simp),.cells X,?_,.cells (zt hX)⟩
   rw [tc];rfl
  ·rename_i he
   exact .inl ⟨hk b' _ hx',by simpa using he,hx'⟩
 ·rw [Hp.get_put,if_neg (by simpa using hw)]
end Go.Ab

namespace Go.Ab
variable {P:Program}{C:Cfg}{K:Out→St→Prop}{st:List Fr}{env:Env}{h:Hp}
def KToF {α:Type}(C:Cfg)(P:Program)(K:Out→St→Prop)(st:List Fr)(p:α→Prop)(S:α→St):Out→St→Prop
 | .norm,s=>∃ i,p i∧(Sub C s (S i)∨(C.Wm=[]∧∃ F,Fz C.nx F s (S i)))
 | .exit i,s=>unst C P K st (.exit i) s
 | .ret,s=>unst C P K st .ret s
 | .panic v,s=>unst C P K st (.panic v) s
theorem zdp {α:Type}{p:α→Prop}{S:α→St}{s:St}(i:α)(hi:p i)(hs:Sub C s (S i)):KToF C P K st p S .norm s:=⟨i,hi,.inl hs⟩
theorem AXa.cutF {α:Type}(n:Nat)(pr:α→Prop)(env':α→Env)(h':α→Hp){y p q:Code}(hn:takeC n y=some (p,q))(hm:P.follows .mixedOrders=true)(hΓ:zcH P C.Γ)(hΔ:za0 P C.Δ)(hok:zae C.nt y=true)
 (hx:AXs C P (KToF C P K st pr fun i=>⟨env' i,h' i⟩) [] p env h) (hc:∀ i,pr i→AXa C P K st q (env' i) (h' i)):AXa C P K st y env h:=
 zii hm ⟨hΓ,hΔ⟩ n y p q ⟨env,h⟩ _ _ hn hok hx fun o s k=>by
  cases o with
  |norm=>
   obtain⟨i,hi,k⟩:=k;rcases k with k|⟨hW,F,k⟩
   ·exact AX.sub k (hc i hi)
   ·exact AX.freeze hW k (hc i hi)
  |exit i=>exact k
  |ret=>exact k
  |panic v=>exact k
theorem NCall.walkWA {nt:Nat}(keep:List Nat)(fz:List Nat)(nx:Nat)(W:List Nat){Γ:FuncId→List V→Option PR}{Δ:FuncId→List V→Hp→Option AR}{f:FuncId}{fn:Func}{c:Code}{args:List V}{F:List Blk}{v:V}{Hc:Hp}{rs:List ResultVar}
 (hm:P.follows .mixedOrders=true) (hΓ:zcH P Γ) (hΔ:za0 P Δ) (hc:zi P f) (hf:P.funcs[f]? =some fn) (hb:fn.body=some c) (hnt:fn.ntmps=nt) (hrs:fn.results.toList=rs) (hok:zae nt c=true) (hle:args.length≤nt) (hnx:nx=F.length) (hW:∀ b∈W,b<F.length) (hn:F.length≤Hc.next)
 (h:AXa ⟨nt,za9 keep,Γ,Δ,nx,W,za9 fz⟩ P (EndN ⟨nt,za9 keep,Γ,Δ,nx,W,za9 fz⟩ P rs v Hc) [] c (zby 0 args) ⟨numB 0 F,nx⟩):NCall P f args F W v Hc:=by
 subst hnx
 refine NCall.of (C:=⟨nt,za9 keep,Γ,Δ,F.length,W,za9 fz⟩) hc hf hb hnt hle rfl hW hn ?_
 refine AX.mono h fun o s hk=>?_
 subst hrs
 cases o with
 |norm=>obtain⟨env',h1,h2,h3⟩:=hk;exact⟨.inl rfl,_,h1,rfl,h2,h3⟩
 |ret=>obtain⟨env',h1,h2,h3⟩:=hk;exact⟨.inr rfl,_,h1,rfl,h2,h3⟩
 |exit i=>exact hk.elim
 |panic v=>exact hk.elim
end Go.Ab

namespace Go.Ab
def FzB(H:Hp)(F:Nat→Prop)(n:Nat)(x' x:Blk):Prop:=
 RnB id (fun b=>¬F b∧b<n) x' x∨∃ cs cs',x=.cells cs∧x'=.cells cs'∧cs'.length=cs.length∧∀(i:Nat) (u v:V),cs[i]? =some u→cs'[i]? =some v→Rn id (fun b=>¬F b∧b<n) v u∨FrzF H F u v
structure Fz2(nx:Nat)(F:Nat→Prop)(s s':St):Prop where
 env:∀ t v',s'.env.lookup t=some v'→v'=.any∨∃ v,s.env.lookup t=some v∧(Rn id (fun b=>¬F b∧b<s'.h.next) v' v∨FrzF s.h F v v')
 heap:∀ b x',s'.h.get b=some x'→b<s'.h.next∧¬F b∧∃ x,s.h.get b=some x∧FzB s.h F s'.h.next x' x
 live:∀ b,F b→nx≤b∧∃ x,s.h.get b=some x
 elder:∀ b,b<nx→s'.h.get b=s.h.get b
 next:nx≤s'.h.next
open Classical in
theorem Rel.freeze2 {C:Cfg}{base:Nat}{D:Nat→Prop}{g0:G}{H0:Hp}{w0:World}{g:G}{F:Nat→Prop}{s s':St}{a:Act}{w:World}(he:Entry C base D g0 H0 w0)(r:Rel C base D g0 H0 w0 g s a w)(hW:C.Wm=[])(h:Fz2 C.nx F s s'):
 ∃ g',Rel C base D g0 H0 w0 g' s' a w:=by
 let cellsAt:Nat→Option (Array Value):=fun c=>match w.heap[c]? with|some (.cells arr _ _)=>some arr|_=>none
 let g':G:=⟨fun b=>if ¬F b∧b<s'.h.next then g.mu b else none,fun c=>(g.phi c).or (if ∃ b T,F b∧g.mu b=some T∧T.c=c then cellsAt c else none)⟩
 have hp:∀ c a,g.phi c=some a→g'.phi c=some a:=fun c a e=>by show (g.phi c).or _=_;rw [e];rfl
 have hm:∀ b,(¬F b∧b<s'.h.next)→g'.mu b=g.mu (id b):=fun b hb=>if_pos hb
 have hm':∀ b T,g'.mu b=some T→(¬F b∧b<s'.h.next)∧g.mu b=some T:=by
  intro b T e;simp only [g']at e;split at e
  ·rename_i hb;exact⟨hb,e⟩
  ·cases e
 have pnx:=he.nx
 have ha:∀ b T arr t,F b→g.mu b=some T→w.heap[T.c]? =some (.cells arr t (0,0))→g'.phi T.c=some arr:=by
  intro b T arr t hF hmu hh;show (g.phi T.c).or _=_;obtain⟨x,hx⟩:=(h.live b hF).2;obtain⟨T1,o,e1,e2,_⟩:=r.post.inv.cont b x (he.inD b) hx;obtain rfl:T1=T:=by rw [hmu]at e1;exact(Option.some.inj e1).symm
  rw [e2,if_pos ⟨b,T1,hF,hmu,rfl⟩];show cellsAt T1.c=some arr;simp only [cellsAt,hh]
 have hphi:∀ c a,g'.phi c=some a→g.phi c=some a∨((∃ b T,F b∧g.mu b=some T∧T.c=c)∧cellsAt c=some a):=by
  intro c a e;have e':(g.phi c).or (if ∃ b T,F b∧g.mu b=some T∧T.c=c then cellsAt c else none)=some a:=e;cases e1:g.phi c with
  |some a'=>rw [e1]at e';left;exact e'
  |none=>
   rw [e1]at e';simp only [Option.none_or]at e';split at e'
   ·rename_i hc;exact .inr ⟨hc,e'⟩
   ·cases e'
 refine⟨g',⟨⟨r.env.glob.mono hp,r.env.size,fun t v' e=>?_⟩,r.defers,?_⟩⟩
 ·rcases h.env t v' e with rfl|⟨v,ev,rn|fz⟩
  ·exact .any _
  ·exact(r.env.rel t v ev).rn hp hm rn
  ·exact fz.rel r.post.inv (fun b _=>he.inD b) hp ha (r.env.rel t v ev)
 ·have own:∀ b T,g.mu b=some T→C.nx≤b→w0.heap.size≤T.c:=by
   intro b T e hb
   rcases r.post.newmu b T e with e0|⟨_,hc|⟨b0,h0,_⟩⟩
   ·have:=(he.inv.dom b T e0).1;omega
   ·exact hc
   ·rw [hW]at h0;cases h0
  refine⟨?_,?_,?_,?_,r.post.frame,r.post.size,r.post.os,r.post.tape,r.post.output,?_,?_⟩
  ·refine⟨fun b T e=>?_,fun c a e=>hp c a (r.post.le.2 c a e)⟩
   have hb:=(he.inv.dom b T e).1
   have hnF:¬F b:=fun hF=>by have:=(h.live b hF).1;omega
   have:g'.mu b=g.mu b:=hm b ⟨hnF,by have:=h.next;omega⟩
   rw [this]
   exact r.post.le.1 b T e
  ·refine⟨fun c a e=>?_,fun b T e=>?_,fun b x e=>(h.heap b x e).1,fun b x _ e=>?_,fun b b' x x' T T' _ _ e e' m m' ec=>?_,r.post.inv.base⟩
   ·rcases hphi c a e with e|⟨_,e⟩
    ·exact r.post.inv.frz c a e
    ·simp only [cellsAt]at e
     split at e
     ·rename_i arr t fr hh;cases e;exact⟨t,fr,hh⟩
     ·cases e
   ·obtain⟨h1,h2⟩:=hm' b T e
    exact⟨h1.2,(r.post.inv.dom _ T h2).2⟩
   ·obtain⟨hb,hnF,y,hy,rn⟩:=h.heap b x e
    obtain⟨T,o,e1,e2,e3,e4⟩:=r.post.inv.cont _ y (he.inD _) hy
    refine⟨T,o,(hm b ⟨hnF,hb⟩).trans e1,?_,e3,?_⟩
    rotate_left
    ·rcases rn with rn|⟨cs,cs',rfl,rfl,hl,hc⟩
     ·exact e4.rn hp hm rn
     ·cases e4 with
      |cells hs hbd hpw=>
       refine .cells hs (by omega) fun i v hv=>?_
       have hlt:=(List.getElem?_eq_some_iff.1 hv).1
       obtain⟨u,hu,ru⟩:=hpw i _ (List.getElem?_eq_getElem (by omega))
       refine⟨u,hu,?_⟩
       rcases hc i _ v (List.getElem?_eq_getElem (by omega)) hv with k|k
       ·exact ru.rn hp hm k
       ·exact k.rel r.post.inv (fun b _=>he.inD b) hp ha ru
    cases e5:g'.phi T.c with
    |none=>rfl
    |some ar=>
     rcases hphi _ _ e5 with e6|⟨⟨b1,T1,hF1,hm1,hc1⟩,_⟩
     ·rw [e2]at e6;cases e6
     ·obtain⟨x1,hx1⟩:=(h.live b1 hF1).2
      have:=r.post.inv.inj b1 b x1 y T1 T (he.inD _) (he.inD _) hx1 hy hm1 e1 hc1
      subst this
      exact absurd hF1 hnF
   ·obtain⟨hb,hnF,y,hy,_⟩:=h.heap b x e
    obtain⟨hb',hnF',y',hy',_⟩:=h.heap b' x' e'
    exact r.post.inv.inj _ _ y y' T T' (he.inD _) (he.inD _) hy hy' (hm' b T m).2 (hm' b' T' m').2 ec
  ·intro b T e
   exact r.post.newmu b T (hm' b T e).2
  ·intro c a e
   rcases hphi c a e with e|⟨⟨b,T,hF,hmu,rfl⟩,_⟩
   ·exact r.post.newphi c a e
   ·exact .inr (own b T hmu (h.live b hF).1)
  ·intro b hb hn
   rw [h.elder b (by omega)]
   exact r.post.aframe b hb hn
  ·have:=h.next;omega
theorem AX.freeze2 {C:Cfg}{P:Program}{K:Out→St→Prop}{F:Nat→Prop}{c:Code}{s s':St}(hW:C.Wm=[])(hs:Fz2 C.nx F s s')(h:AX C P c s' K):AX C P c s K:=fun base D g0 H0 w0 _ a w he r=>
 let ⟨g',r'⟩:=r.freeze2 he hW hs
 h base D g0 H0 w0 g' a w he r'
def lFz(H:Hp)(F:Nat→Prop)(n:Nat):List V→List V→Prop
 |[],[]=>True
 |u::cs,v::cs'=>(Rn id (fun b=>¬F b∧b<n) v u∨FrzF H F u v)∧lFz H F n cs cs'
 |_,_=>False
theorem lFz_ok {H:Hp}{F:Nat→Prop}{n:Nat}:∀ {cs cs':List V},lFz H F n cs cs'→cs'.length=cs.length∧∀(i:Nat) (u v:V),cs[i]? =some u→cs'[i]? =some v→Rn id (fun b=>¬F b∧b<n) v u∨FrzF H F u v
 |[],[],_=>⟨rfl,fun i u v h=>by simp at h⟩
 |u::cs,v::cs',h=>by
  obtain⟨h1,h2⟩:=h;obtain⟨k1,k2⟩:=lFz_ok h2;refine⟨by simp [k1],fun i x y hx hy=>?_⟩;match i with
  |0=>cases hx;cases hy;exact h1
  |i+1=>exact k2 i x y (by simpa using hx) (by simpa using hy)
 |[],_::_,h=>h.elim
 |_::_,[],h=>h.elim
def fzC(H:Hp)(F:Nat→Prop)(n:Nat)(bs:List (Nat×Blk)):List (Nat×List V)→Prop
 |[]=>True
 |(b,cs')::r=>(b<n∧¬F b∧zpz (zaE bs b) (fun y=>match y with| .cells cs=>lFz H F n cs cs'|_=>False))∧fzC H F n bs r
def cellB(l:List (Nat×List V)):List (Nat×Blk):=l.map fun p=>(p.1,.cells p.2)
theorem fzC_ok {H:Hp}{F:Nat→Prop}{n:Nat}{bs:List (Nat×Blk)}:∀ {bs':List (Nat×List V)},fzC H F n bs bs'→∀ b x',(cellB bs').lookup b=some x'→b<n∧¬F b∧∃ x,zaE bs b=some x∧FzB H F n x' x
 |[],_,b,x',h=>by cases h
 |(k,u)::r,hs,b,x',h=>by
  rw [cellB,List.map_cons,List.lookup_cons]at h;by_cases hk:b=k
  ·subst hk;simp only [beq_self_eq_true,Option.some.injEq]at h;subst h;obtain⟨⟨h1,h0,h2⟩,_⟩:=hs;refine⟨h1,h0,?_⟩;cases e:zaE bs b with
   |none=>rw [e]at h2;exact h2.elim
   |some y=>
    rw [e]at h2;cases y with
    |cells cs=>obtain⟨k1,k2⟩:=lFz_ok (show lFz H F n cs u from h2);exact⟨_,rfl,.inr ⟨cs,u,rfl,rfl,k1,k2⟩⟩
    |_=>exact(show False from h2).elim
  ·have hb:(b==k)=false:=by simp [hk]
   simp only [hb]at h;exact fzC_ok hs.2 b x' h
theorem AXa.fz2 {C:Cfg}{P:Program}{K:Out→St→Prop}{st:List Fr}{y:Code}{env env':Env}{bs:List (Nat×Blk)}{n n':Nat}(fl:List Nat)(bs':List (Nat×List V))(hW:C.Wm=[])(h0:C.nx=0)(hl:(fl.all fun b=>(zaE bs b).isSome)=true)
 (he:fzE (· ∈fl) n' ⟨bs,n⟩ env env') (hh:fzC ⟨bs,n⟩ (· ∈fl) n' bs bs') (hx:AXa C P K st y env' ⟨cellB bs',n'⟩):AXa C P K st y env ⟨bs,n⟩:=by
 refine AX.freeze2 (F:=(· ∈fl)) hW ⟨zuZ he,fun b x' e=>?_,fun b hb=>⟨by omega,?_⟩,fun b hb=>by omega,by rw [h0];exact Nat.zero_le _⟩ hx
 ·obtain⟨h1,h2,x,h3,h4⟩:=fzC_ok hh b x' e
  exact⟨h1,h2,x,by rw [zbg];exact h3,h4⟩
 ·have:=List.all_eq_true.1 hl b hb
  rw [Option.isSome_iff_exists]at this
  rw [zbg];exact this
end Go.Ab

namespace Go.Ab
open Classical in
theorem Rel.freeze3 {C:Cfg}{base:Nat}{D:Nat→Prop}{g0:G}{H0:Hp}{w0:World}{g:G}{F:Nat→Prop}{s s':St}{a:Act}{w:World}(he:Entry C base D g0 H0 w0)(r:Rel C base D g0 H0 w0 g s a w)(hW:∀ b0∈C.Wm,b0<C.nx∧∃ x,s.h.get b0=some x)(h:Fz2 C.nx F s s'):
 ∃ g',Rel C base D g0 H0 w0 g' s' a w:=by
 let cellsAt:Nat→Option (Array Value):=fun c=>match w.heap[c]? with|some (.cells arr _ _)=>some arr|_=>none
 let g':G:=⟨fun b=>if ¬F b∧b<s'.h.next then g.mu b else none,fun c=>(g.phi c).or (if ∃ b T,F b∧g.mu b=some T∧T.c=c then cellsAt c else none)⟩
 have hp:∀ c a,g.phi c=some a→g'.phi c=some a:=fun c a e=>by show (g.phi c).or _=_;rw [e];rfl
 have hm:∀ b,(¬F b∧b<s'.h.next)→g'.mu b=g.mu (id b):=fun b hb=>if_pos hb
 have hm':∀ b T,g'.mu b=some T→(¬F b∧b<s'.h.next)∧g.mu b=some T:=by
  intro b T e;simp only [g']at e;split at e
  ·rename_i hb;exact⟨hb,e⟩
  ·cases e
 have pnx:=he.nx
 have ha:∀ b T arr t,F b→g.mu b=some T→w.heap[T.c]? =some (.cells arr t (0,0))→g'.phi T.c=some arr:=by
  intro b T arr t hF hmu hh;show (g.phi T.c).or _=_;obtain⟨x,hx⟩:=(h.live b hF).2;obtain⟨T1,o,e1,e2,_⟩:=r.post.inv.cont b x (he.inD b) hx;obtain rfl:T1=T:=by rw [hmu]at e1;exact(Option.some.inj e1).symm
  rw [e2,if_pos ⟨b,T1,hF,hmu,rfl⟩];show cellsAt T1.c=some arr;simp only [cellsAt,hh]
 have hphi:∀ c a,g'.phi c=some a→g.phi c=some a∨((∃ b T,F b∧g.mu b=some T∧T.c=c)∧cellsAt c=some a):=by
  intro c a e;have e':(g.phi c).or (if ∃ b T,F b∧g.mu b=some T∧T.c=c then cellsAt c else none)=some a:=e;cases e1:g.phi c with
  |some a'=>rw [e1]at e';left;exact e'
  |none=>
   rw [e1]at e';simp only [Option.none_or]at e';split at e'
   ·rename_i hc;exact .inr ⟨hc,e'⟩
   ·cases e'
 refine⟨g',⟨⟨r.env.glob.mono hp,r.env.size,fun t v' e=>?_⟩,r.defers,?_⟩⟩
 ·rcases h.env t v' e with rfl|⟨v,ev,rn|fz⟩
  ·exact .any _
  ·exact(r.env.rel t v ev).rn hp hm rn
  ·exact fz.rel r.post.inv (fun b _=>he.inD b) hp ha (r.env.rel t v ev)
 ·have own:∀ b T,(∃ x,s.h.get b=some x)→g.mu b=some T→C.nx≤b→w0.heap.size≤T.c:=by
   intro b T ⟨x,hx⟩ e hb
   rcases r.post.newmu b T e with e0|⟨_,hc|⟨b0,h0,T0,e0,ec⟩⟩
   ·have:=(he.inv.dom b T e0).1;omega
   ·exact hc
   ·obtain⟨h1,y,hy⟩:=hW b0 h0;have:=r.post.inv.inj b b0 x y T T0 (he.inD _) (he.inD _) hx hy e (r.post.le.1 _ _ e0) ec.symm;omega
  refine⟨?_,?_,?_,?_,r.post.frame,r.post.size,r.post.os,r.post.tape,r.post.output,?_,?_⟩
  ·refine⟨fun b T e=>?_,fun c a e=>hp c a (r.post.le.2 c a e)⟩
   have hb:=(he.inv.dom b T e).1
   have hnF:¬F b:=fun hF=>by have:=(h.live b hF).1;omega
   have:g'.mu b=g.mu b:=hm b ⟨hnF,by have:=h.next;omega⟩
   rw [this]
   exact r.post.le.1 b T e
  ·refine⟨fun c a e=>?_,fun b T e=>?_,fun b x e=>(h.heap b x e).1,fun b x _ e=>?_,fun b b' x x' T T' _ _ e e' m m' ec=>?_,r.post.inv.base⟩
   ·rcases hphi c a e with e|⟨_,e⟩
    ·exact r.post.inv.frz c a e
    ·simp only [cellsAt]at e
     split at e
     ·rename_i arr t fr hh;cases e;exact⟨t,fr,hh⟩
     ·cases e
   ·obtain⟨h1,h2⟩:=hm' b T e
    exact⟨h1.2,(r.post.inv.dom _ T h2).2⟩
   ·obtain⟨hb,hnF,y,hy,rn⟩:=h.heap b x e
    obtain⟨T,o,e1,e2,e3,e4⟩:=r.post.inv.cont _ y (he.inD _) hy
    refine⟨T,o,(hm b ⟨hnF,hb⟩).trans e1,?_,e3,?_⟩
    rotate_left
    ·rcases rn with rn|⟨cs,cs',rfl,rfl,hl,hc⟩
     ·exact e4.rn hp hm rn
     ·cases e4 with
      |cells hs hbd hpw=>
       refine .cells hs (by omega) fun i v hv=>?_
       have hlt:=(List.getElem?_eq_some_iff.1 hv).1
       obtain⟨u,hu,ru⟩:=hpw i _ (List.getElem?_eq_getElem (by omega))
       refine⟨u,hu,?_⟩
       rcases hc i _ v (List.getElem?_eq_getElem (by omega)) hv with k|k
       ·exact ru.rn hp hm k
       ·exact k.rel r.post.inv (fun b _=>he.inD b) hp ha ru
    cases e5:g'.phi T.c with
    |none=>rfl
    |some ar=>
     rcases hphi _ _ e5 with e6|⟨⟨b1,T1,hF1,hm1,hc1⟩,_⟩
     ·rw [e2]at e6;cases e6
     ·obtain⟨x1,hx1⟩:=(h.live b1 hF1).2
      have:=r.post.inv.inj b1 b x1 y T1 T (he.inD _) (he.inD _) hx1 hy hm1 e1 hc1
      subst this
      exact absurd hF1 hnF
   ·obtain⟨hb,hnF,y,hy,_⟩:=h.heap b x e
    obtain⟨hb',hnF',y',hy',_⟩:=h.heap b' x' e'
    exact r.post.inv.inj _ _ y y' T T' (he.inD _) (he.inD _) hy hy' (hm' b T m).2 (hm' b' T' m').2 ec
  ·intro b T e
   exact r.post.newmu b T (hm' b T e).2
  ·intro c a e
   rcases hphi c a e with e|⟨⟨b,T,hF,hmu,rfl⟩,_⟩
   ·exact r.post.newphi c a e
   ·exact .inr (own b T (h.live b hF).2 hmu (h.live b hF).1)
  ·intro b hb hn
   rw [h.elder b (by omega)]
   exact r.post.aframe b hb hn
  ·have:=h.next;omega
theorem AX.freeze3 {C:Cfg}{P:Program}{K:Out→St→Prop}{F:Nat→Prop}{c:Code}{s s':St}(hW:∀ b0∈C.Wm,b0<C.nx∧∃ x,s.h.get b0=some x)(hs:Fz2 C.nx F s s')(h:AX C P c s' K):AX C P c s K:=fun base D g0 H0 w0 _ a w he r=>
 let ⟨g',r'⟩:=r.freeze3 he hW hs
 h base D g0 H0 w0 g' a w he r'
end Go.Ab

namespace Go.Ab
variable {P:Program}
structure Meth(α σ:Type) where
 pat:α→List V
 cel:σ→List V
 cond:α→σ→Prop
 val:α→σ→V
 upd:α→σ→σ
 patI:∀ x y,pat x=pat y→x=y
 celI:∀ x y,cel x=cel y→x=y
 patP:∀ x,∀ v∈pat x,Pure v
 celP:∀ s,∀ v∈cel s,Pure v
 valP:∀ x s,Pure (val x s)
variable {α σ:Type}(M:Meth α σ)
def zxz(args:List V)(H:Hp)(r:AR):Prop:=
 ∃(b:Nat) (x:α) (s:σ),args=.ptr b 0::M.pat x∧M.cond x s∧H.get b=some (.cells (M.cel s))∧(∀ b x,H.get b=some x→b<H.next)∧
  r=⟨True,M.val x s,H.put b (.cells (M.cel (M.upd x s))),[b],[b]⟩
def MethR(args:List V)(H:Hp)(r:AR):Prop:=
 ∃(b:Nat) (x:α) (s:σ),args=.ptr b 0::M.pat x∧M.cond x s∧H.get b=some (.cells (M.cel s))∧(∀ b x,H.get b=some x→b<H.next)∧
  r=⟨True,M.val x s,H,[b],[]⟩
theorem zkI {π:Nat→Nat}{N:Nat→Prop}{b c:Nat}(hb:N b)(hc:π b=c){r:List V}(hr:∀ x∈r,Pure x):LRel (Rn π N) (.ptr b 0::r) (.ptr c 0::r):=by
 subst hc;refine⟨rfl,fun i x y hx hy=>?_⟩;match i with
 |0=>cases hx;cases hy;exact .ptr hb
 |i+1=>simp only [List.getElem?_cons_succ]at hx hy;rw [hx]at hy;cases hy;exact .same (hr _ (List.mem_of_getElem? hx))
theorem zjc {f:FuncId}(hN:∀ x s,M.cond x s→NCall P f (.ptr 0 0::M.pat x) [.cells (M.cel s)] [0] (M.val x s) ⟨[(0,.cells (M.cel (M.upd x s)))],1⟩):∀ args H r,zxz M args H r→HCall P f args H r:=by rintro args H r ⟨b,x,s,rfl,hc,hb,hk,rfl⟩;exact HCall.putS (hN x s hc) (M.valP x s) (M.celP s) (M.celP _) b _ H (zkI (b:=0) (c:=b) (Nat.zero_lt_one) rfl (M.patP x)) hb hk
theorem methR_ok {f:FuncId}(hN:∀ x s,M.cond x s→NCall P f (.ptr 0 0::M.pat x) [.cells (M.cel s)] [] (M.val x s) ⟨[(0,.cells (M.cel s))],1⟩):∀ args H r,MethR M args H r→HCall P f args H r:=by
 rintro args H r ⟨b,x,s,rfl,hc,hb,hk,rfl⟩;refine HCall.none (hN x s hc) (M.valP x s) [b] _ H rfl (by simp) (zkI (b:=0) (c:=b) (Nat.zero_lt_one) rfl (M.patP x)) (fun i y hy=>?_) (fun i y hy π N=>?_) hk
 ·match i with
  |0=>cases hy;exact⟨b,rfl,hb,.cells (zt (M.celP s))⟩
  |i+1=>simp at hy
 ·match i with
  |0=>cases hy;exact .cells (zt (M.celP s))
  |i+1=>simp at hy
theorem zjd {b:Nat}{x:α}{s:σ}{bs:List (Nat×Blk)}{n:Nat}(hc:M.cond x s)(hb:zaE bs b=some (.cells (M.cel s)))(hk:((keysB bs).all fun b=>decide (b<n))=true):
 conD (zxz M) (.ptr b 0::M.pat x) ⟨bs,n⟩=some ⟨True,M.val x s,(⟨bs,n⟩:Hp).put b (.cells (M.cel (M.upd x s))),[b],[b]⟩:=by
 refine zax ⟨b,x,s,rfl,hc,by rw [zbg];exact hb,zbq hk,rfl⟩ fun r' ⟨b',x',s',e1,_,e2,_,e3⟩=>?_
 simp only [List.cons.injEq,V.ptr.injEq,and_true]at e1
 obtain⟨rfl,e1⟩:=e1
 have ex:=M.patI _ _ e1
 subst ex
 rw [zbg,hb]at e2
 simp only [Option.some.injEq,Blk.cells.injEq]at e2
 have es:=M.celI _ _ e2
 subst es
 exact e3
theorem methR_eq {b:Nat}{x:α}{s:σ}{bs:List (Nat×Blk)}{n:Nat}(hc:M.cond x s)(hb:zaE bs b=some (.cells (M.cel s)))(hk:((keysB bs).all fun b=>decide (b<n))=true):
 conD (MethR M) (.ptr b 0::M.pat x) ⟨bs,n⟩=some ⟨True,M.val x s,⟨bs,n⟩,[b],[]⟩:=by
 refine zax ⟨b,x,s,rfl,hc,by rw [zbg];exact hb,zbq hk,rfl⟩ fun r' ⟨b',x',s',e1,_,e2,_,e3⟩=>?_
 simp only [List.cons.injEq,V.ptr.injEq,and_true]at e1
 obtain⟨rfl,e1⟩:=e1
 have ex:=M.patI _ _ e1
 subst ex
 rw [zbg,hb]at e2
 simp only [Option.some.injEq,Blk.cells.injEq]at e2
 have es:=M.celI _ _ e2
 subst es
 exact e3
theorem HCall.freshP {f:FuncId}{args:List V}{X:List V}{v:V}(hN:NCall P f args [] [] (.tup [.ptr 0 0,v]) ⟨[(0,.cells X)],1⟩)(hX:∀ x∈X,Pure x)(hv:Pure v)(ha:∀ x∈args,Pure x)
 (H:Hp) (hk:∀ b x,H.get b=some x→b<H.next):HCall P f args H ⟨True,.tup [.ptr H.next 0,v],⟨(H.next,.cells X)::H.bs,H.next+1⟩,[],[]⟩:=by
 have t0:zH [] H.next H.next=0:=by unfold zH;rw [if_neg (by omega)];simp
 refine HCall.of hN [] args (.tup [.ptr H.next 0,v]) H _ rfl .nil (zt ha) (fun i x hx=>by simp at hx) ?_ (by show H.next+1+0=H.next+1;rfl) (fun b x' hx'=>?_) (fun b hb _=>?_)
 ·refine .tup rfl fun i x y hx hy=>?_
  match i with
  |0=>
   cases hx;cases hy
   have:=Rn.ptr (π:=zH [] H.next) (N:=fun b=>b∈[]∨(H.next≤b∧b<H.next+1)) (b:=H.next) (off:=0) (.inr ⟨Nat.le_refl _,by omega⟩)
   rwa [t0]at this
  |1=>cases hx;cases hy;exact .same hv
  |i+2=>simp at hx
 ·have hx'':(((H.next,Blk.cells X)::H.bs:List (Nat×Blk)).lookup b)=some x':=hx'
  rw [List.lookup_cons]at hx''
  by_cases hb1:b=H.next
  ·subst hb1
   simp only [beq_self_eq_true,Option.some.injEq]at hx''
   subst hx''
   exact .inr ⟨.inr ⟨by omega,by show H.next<H.next+1;omega⟩,_,by rw [t0];rfl,.cells (zt hX)⟩
  ·have hq:(b==H.next)=false:=by simp [hb1]
   simp only [hq]at hx''
   exact .inl ⟨hk b _ hx'',by simp,hx''⟩
 ·show (((H.next,Blk.cells X)::H.bs:List (Nat×Blk)).lookup b)=H.get b
  rw [List.lookup_cons]
  have hne:(b==H.next)=false:=by simp;omega
  rw [hne];rfl
theorem HCall.plain {f:FuncId}{args:List V}{v:V}(hN:NCall P f args [] [] v ⟨[],0⟩)(hv:Pure v)(ha:∀ x∈args,Pure x)(H:Hp)(hk:∀ b x,H.get b=some x→b<H.next):HCall P f args H ⟨True,v,H,[],[]⟩:=
 HCall.none hN hv [] args H rfl .nil (zt ha) (fun i x hx=>by simp at hx) (fun i x hx=>by simp at hx) hk
end Go.Ab
