/- A call inside another one that has memory of its own besides. -/
import Derived.Test.YthbimeikbkjnkaaGreatDoorAbCall
set_option linter.all false
namespace Go.Ab
theorem Stat.trans {H H1 H2:Hp}{W1 W2:List Nat}(p:Stat H H1 W1)(q:Stat H1 H2 W2):Stat H H2 (W1++W2.filter (· <H.next)):=by
 refine⟨Nat.le_trans p.next q.next,fun b hb hn=>?_,fun b hb=>?_,fun h=>q.keys (p.keys h)⟩
 ·rw [q.frame b (Nat.lt_of_lt_of_le hb p.next) fun h=>hn (List.mem_append_right _ (List.mem_filter.2 ⟨h,by simpa using hb⟩)),p.frame b hb fun h=>hn (List.mem_append_left _ h)]
 ·rcases List.mem_append.1 hb with h|h
  ·exact p.live b h
  ·obtain⟨h1,h2⟩:=List.mem_filter.1 h;have hlt:b<H.next:=by simpa using h2
   by_cases hw:b∈W1
   ·exact p.live b hw
   ·obtain⟨x,hx⟩:=q.live b h1;rw [p.frame b hlt hw]at hx;exact⟨x,hx⟩
theorem Inv.more {g:G}{base:Nat}{H:Hp}{D:Nat→Prop}{w w2:World}(h:Inv g base H D w)(hb:Bel w.heap.size w w2):Inv g base H D w2:=
 ⟨fun c a e=>by rw [hb.block c (h.below_phi e)];exact h.frz c a e,fun b T e=>⟨(h.dom b T e).1,(h.dom b T e).2.1,Nat.lt_of_lt_of_le (h.dom b T e).2.2 hb.size⟩,h.keys,
  fun b x hd e=>let ⟨T,o,e1,e2,e3,e4⟩:=h.cont b x hd e;⟨T,o,e1,e2,by rw [hb.block _ (h.dom b T e1).2.2];exact e3,e4⟩,h.inj,Nat.le_trans h.base hb.size⟩
theorem Post.around {g g':G}{base:Nat}{H H':Hp}{D:Nat→Prop}{W:List Nat}{w w2 w3 w4:World}(hI:Inv g base H D w)(hb:Bel w.heap.size w w2)(p:Post g g' base H H' D W w2 w3)
 (ho:w4.os=w3.os) (ht:Tp w3 w4) (hu:w4.output=w3.output) (hs:w3.heap.size≤w4.heap.size)
 (hh:∀ c,c<w3.heap.size→(c<w.heap.size∨w2.heap.size≤c)→w4.heap[c]? =w3.heap[c]?):Post g g' base H H' D W w w4:=by
 have out:∀ b T,g'.mu b=some T→T.c<w.heap.size∨w2.heap.size≤T.c:=by
  intro b T e;rcases p.newmu b T e with e|⟨_,h|⟨b0,_,T0,e0,ec⟩⟩
  ·exact .inl (hI.dom b T e).2.2
  ·exact .inr h
  ·exact .inl (ec▸(hI.dom b0 T0 e0).2.2)
 refine⟨p.le,?_,fun b T e=>?_,fun c a e=>?_,fun c hc hf=>?_,Nat.le_trans hb.size (Nat.le_trans p.size hs),ho.trans (p.os.trans hb.os),ht.trans (p.tape.trans hb.tape),hu.trans (p.output.trans hb.output),p.aframe,p.anext⟩
 ·refine⟨fun c a e=>?_,fun b T e=>⟨(p.inv.dom b T e).1,(p.inv.dom b T e).2.1,Nat.lt_of_lt_of_le (p.inv.dom b T e).2.2 hs⟩,p.inv.keys,fun b x hd e=>?_,p.inv.inj,Nat.le_trans p.inv.base hs⟩
  ·rw [hh c (p.inv.below_phi e) ((p.newphi c a e).imp (fun h=>hI.below_phi h) id)]
   exact p.inv.frz c a e
  ·obtain⟨T,o,e1,e2,e3,e4⟩:=p.inv.cont b x hd e
   exact⟨T,o,e1,e2,by rw [hh _ (p.inv.dom b T e1).2.2 (out b T e1)];exact e3,e4⟩
 ·refine(p.newmu b T e).imp id fun⟨h1,h2⟩=>⟨h1,h2.imp (fun h=>Nat.le_trans hb.size h) id⟩
 ·exact(p.newphi c a e).imp id fun h=>Nat.le_trans hb.size h
 ·rw [hh c (Nat.lt_of_lt_of_le hc (Nat.le_trans hb.size p.size)) (.inl hc),p.frame c (Nat.lt_of_lt_of_le hc hb.size) hf,hb.block c hc]
theorem zbo {α:Type}(q:Nat→Bool)(c:Nat):∀ l:List (Nat×α),(l.filter fun p=>q p.1).lookup c=if q c=true then l.lookup c else Option.none
 |[]=>by simp
 |p::r=>by
  rw [List.filter_cons,List.lookup_cons];by_cases hc:c=p.1
  ·subst hc;cases hq:q p.1 with
   |true=>obtain⟨k,x⟩:=p;simp at hq ⊢
   |false=>simp only [Bool.false_eq_true,if_false,beq_self_eq_true];rw [zbo q p.1 r,hq];simp
  ·have hb:(c==p.1)=false:=by simp [hc]
   rw [hb];cases hq:q p.1 with
   |true=>rw [if_pos rfl,List.lookup_cons,hb];exact zbo q c r
   |false=>simp only [Bool.false_eq_true,if_false];exact zbo q c r
theorem zhH {α:Type}(c:Nat):∀ l r:List (Nat×α),(l++r).lookup c=match l.lookup c with|some x=>some x|Option.none=>r.lookup c
 |[],r=>rfl
 |p::l,r=>by
  rw [List.cons_append,List.lookup_cons,List.lookup_cons];cases h:c==p.1 with
  |true=>rfl
  |false=>exact zhH c l r
section
variable {P:Program}
theorem HCall.frame {f:FuncId}{args:List V}{H H1:Hp}{q:Nat→Bool}{r1:AR}{join:Hp}(hn:H1.next=H.next)(h1:∀ b,H1.get b=if q b=true then H.get b else Option.none)
 (hj:∀ b,join.get b=match r1.h.get b with|some x=>some x|Option.none=>if q b=true then Option.none else H.get b) (hjn:join.next=r1.h.next) (h:HCall P f args H1 r1):HCall P f args H { r1 with h:=join }:=by
 obtain⟨hs,hc⟩:=h
 have sub:∀ {b x},H1.get b=some x→q b=true∧H.get b=some x:=by
  intro b x e;rw [h1]at e;split at e
  ·rename_i hq;exact⟨hq,e⟩
  ·cases e
 have liveQ:r1.pre→∀ b∈r1.W,q b=true∧∃ x,H.get b=some x:=fun hp b hb=>by obtain⟨x,hx⟩:=(hs hp).live b hb;exact⟨(sub hx).1,x,(sub hx).2⟩
 have outside:r1.pre→∀ b,b<H.next→¬q b=true→r1.h.get b=Option.none:=fun hp b hb hq=>by rw [(hs hp).frame b (hn▸hb) fun hw=>hq (liveQ hp b hw).1,h1,if_neg hq]
 have fr:r1.pre→∀ b,b<H.next→b∉r1.W→join.get b=H.get b:=fun hp b hb hw=>by
  rw [hj];by_cases hq:q b=true
  ·rw [(hs hp).frame b (hn▸hb) hw,h1,if_pos hq,if_pos hq];cases H.get b<;>rfl
  ·rw [outside hp b hb hq,if_neg hq]
 refine⟨fun hp=>⟨by rw [hjn, ←hn];exact(hs hp).next,fr hp,fun b hb=>(liveQ hp b hb).2,fun hk b x e=>?_⟩,fun hp g base D w vs hgl hI hvs hpw hD=>?_⟩
 ·show b<join.next
  rw [hjn]
  have e':join.get b=some x:=e
  rw [hj]at e'
  have hk1:∀ b x,H1.get b=some x→b<H1.next:=fun b x e=>by rw [hn];exact hk b x (sub e).2
  split at e'
  ·rename_i y hy
   exact(hs hp).keys hk1 b y hy
  ·split at e'
   ·cases e'
   ·have:=hk b x e'
    have:=(hs hp).next
    omega
 have hI1:Inv g base H1 D w:=⟨hI.frz,fun b T e=>by rw [hn];exact hI.dom b T e,fun b x e=>by rw [hn];exact hI.keys b x (sub e).2,fun b x hd e=>hI.cont b x hd (sub e).2,
  fun b b' x x' T T' hd hd' e e'=>hI.inj b b' x x' T T' hd hd' (sub e).2 (sub e').2,hI.base⟩
 refine(hc hp g base D w vs hgl hI1 hvs hpw hD).mono fun e w' q'=>?_
 obtain⟨g',vc,rfl,hv,p⟩:=q'
 refine⟨g',vc,rfl,hv,?_⟩
 have hDW:∀ b∈r1.W,D b:=fun b hb=>hD b (List.mem_append_right _ hb)
 have old:∀ b x,D b→¬q b=true→H.get b=some x→∃ T o,g.mu b=some T∧g'.mu b=some T∧T.c<w.heap.size∧g'.phi T.c=Option.none∧w'.heap[T.c]? =some o∧BlkRel g x T o:=by
  intro b x hd hq e;obtain⟨T,o,e1,e2,e3,e4⟩:=hI.cont b x hd e;have hlt:=(hI.dom b T e1).2.2;refine⟨T,o,e1,p.le.1 _ _ e1,hlt,?_,?_,e4⟩
  ·cases hq2:g'.phi T.c with
   |none=>rfl
   |some a=>
    rcases p.newphi _ _ hq2 with h|h
    ·rw [e2]at h;cases h
    ·omega
  ·rw [p.frame T.c hlt fun b0 hb0 T0 e0 ec=>?_]
   ·exact e3
   ·obtain⟨hq0,x0,hx0⟩:=liveQ hp b0 hb0;have:=hI.inj b0 b x0 x T0 T (hDW b0 hb0) hd hx0 e e0 e1 ec;subst this;exact hq hq0
 have parts:∀ b x,join.get b=some x→r1.h.get b=some x∨(r1.h.get b=Option.none∧¬q b=true∧H.get b=some x):=by
  intro b x e;rw [hj]at e;split at e
  ·rename_i y hy;cases e;exact .inl hy
  ·rename_i hy;split at e
   ·cases e
   ·rename_i hq;exact .inr ⟨hy,hq,e⟩
 refine⟨p.le,⟨p.inv.frz,fun b T e=>by rw [hjn];exact p.inv.dom b T e,fun b x e=>?_,fun b x hd e=>?_,fun b b' x x' T T' hd hd' e e' m m' ec=>?_,p.inv.base⟩,
  fun b T e=>by rw [←hn];exact p.newmu b T e,p.newphi,p.frame,p.size,p.os,p.tape,p.output,fr hp,by rw [hjn, ←hn];exact p.anext⟩
 ·rw [hjn]
  rcases parts b x e with e|⟨_,_,e⟩
  ·exact p.inv.keys b x e
  ·have:=hI.keys b x e
   have:=p.anext
   omega
 ·rcases parts b x e with e|⟨_,hq,e⟩
  ·exact p.inv.cont b x (hn▸hd) e
  ·have hlt:=hI.keys b x e
   obtain⟨T,o,e1,e2,e3,e4,e5,e6⟩:=old b x (hd.resolve_right (by omega)) hq e
   exact⟨T,o,e2,e4,e5,e6.mono p.le⟩
 ·have mixed:∀ {b b' x x' T T'},(D b∨H.next≤b)→(D b'∨H.next≤b')→r1.h.get b=some x→¬q b'=true→H.get b'=some x'→g'.mu b=some T→g'.mu b'=some T'→T.c=T'.c→False:=by
   intro b b' x x' T T' hd hd' e hq e' m m' ec
   have hlt':=hI.keys b' x' e'
   obtain⟨U,o,u1,u2,u3,_⟩:=old b' x' (hd'.resolve_right (by omega)) hq e'
   obtain rfl:T'=U:=by rw [u2]at m';exact(Option.some.inj m').symm
   rcases p.newmu b T m with m0|⟨hb,h|⟨b0,hb0,T0,e0,ec0⟩⟩
   ·have hlt:=(hI.dom b T m0).1;have hb1:q b=true∧∃ y,H.get b=some y:=by
     by_cases hw:b∈r1.W
     ·exact liveQ hp b hw
     ·have:=(hs hp).frame b (hn▸hlt) hw;rw [e]at this;exact⟨(sub this.symm).1,x,(sub this.symm).2⟩
    obtain⟨hqb,y,hy⟩:=hb1;have:=hI.inj b b' y x' T T' (hd.resolve_right (by omega)) (hd'.resolve_right (by omega)) hy e' m0 u1 ec;subst this;exact hq hqb
   ·rw [ec]at h;omega
   ·obtain⟨hq0,x0,hx0⟩:=liveQ hp b0 hb0;have:=hI.inj b0 b' x0 x' T0 T' (hDW b0 hb0) (hd'.resolve_right (by omega)) hx0 e' e0 u1 (ec0.trans ec);subst this;exact hq hq0
  rcases parts b x e with e|⟨_,hq,e⟩<;>rcases parts b' x' e' with e'|⟨_,hq',e'⟩
  ·exact p.inv.inj b b' x x' T T' (hn▸hd) (hn▸hd') e e' m m' ec
  ·exact(mixed hd hd' e hq' e' m m' ec).elim
  ·exact(mixed hd' hd e' hq e m' m ec.symm).elim
  ·have hlt:=hI.keys b x e
   have hlt':=hI.keys b' x' e'
   obtain⟨U,_,u1,u2,_⟩:=old b x (hd.resolve_right (by omega)) hq e
   obtain⟨U',_,u1',u2',_⟩:=old b' x' (hd'.resolve_right (by omega)) hq' e'
   obtain rfl:T=U:=by rw [u2]at m;exact(Option.some.inj m).symm
   obtain rfl:T'=U':=by rw [u2']at m';exact(Option.some.inj m').symm
   exact hI.inj b b' x x' T T' (hd.resolve_right (by omega)) (hd'.resolve_right (by omega)) e e' u1 u1' ec
end
end Go.Ab
