/- The machine of AbEv is sound: calls. -/
import Derived.Test.YthbimeikbkjnkaaGreatDoorAbEvCode
import Derived.Tactics
import Derived.Tactics2
import Derived.Defers
import Derived.Recover
import Derived.Laws.Pointers
import Derived.KernelRfl
import Derived.Laws.Externs
import Derived.Lib.Builder
set_option linter.all false
set_option maxHeartbeats 16000000
set_option maxRecDepth 100000
namespace Go.Ab
variable {P:Program}
structure Gr(C:Cfg)(H H':Hp):Prop where
 next:H.next≤H'.next
 frame:C.nx≤H.next→∀ b,b<C.nx→b∉C.Wm→H'.get b=H.get b
 keys:(∀ b x,H.get b=some x→b<H.next)→∀ b x,H'.get b=some x→b<H'.next
theorem Gr.refl(C:Cfg)(H:Hp):Gr C H H:=⟨Ye _,fun _ _ _ _=>rfl,fun h=>h⟩
theorem Gr.trans {C:Cfg}{H H' H'':Hp}(p:Gr C H H')(q:Gr C H' H''):Gr C H H'':=
 ⟨Yn p.next q.next,fun hn b hb h=>(q.frame (Yn hn p.next) b hb h).trans (p.frame hn b hb h),fun h=>q.keys (p.keys h)⟩
theorem Gr.of {C:Cfg}{H H':Hp}{W:List Nat}(s:Stat H H' W)(hw:wok C W=true):Gr C H H':=by
 refine⟨s.next,fun hn b hb h=>s.frame b (Yo hb hn) fun hm=>?_,s.keys⟩;have:=Yg.1 hw b hm;simp only [Yae,Yh,Yba]at this;rcases this with h1|h1
 ·omega
 ·exact h h1
theorem put_h(s:TS)(dst:Option Tmp)(v:V)(h:Hp):(s.put dst v h).h=h:=by cases dst<;>rfl
theorem zii {C:Cfg}(hΓ:zcP P C)(hΔ:∀ f ags H r,C.Δ f ags H=some r→r.pre){ops:Array Oper}{d:Bool}:∀(os:List Oper) (i:Nat) (s:TS) (acc:List (Nat×Foot)) (o':Out) (s':TS) (env:Env),
 eRun C P ops d os i s acc=some (o',s')→TE s.t env→(∀ o∈os,∀ d,o.dst=some d→d<4095)→Gr C s.h s'.h
 |[],i,s,acc,o',s',env,h,hT,hd=>by
  unfold eRun at h;cases d with
  |false=>cases h;exact Gr.refl _ _
  |true=>
   simp only [YaL]at h;cases hc:chk ops acc with
   |true=>rw [hc]at h;cases h;exact Gr.refl _ _
   |false=>rw [hc]at h;cases h
 |o::os,i,s,acc,o',s',env,h,hT,hd=>by
  unfold eRun at h;have hdo:=hd o (by simp);have hds:∀ o∈os,∀ d,o.dst=some d→d<4095:=fun o ho=>hd o (Yz _ ho);split at h
  ·rename_i hgv;have hS:=zg6 (P:=P) hΔ hT o.op s.h;have sem:=zcF (P:=P) hΓ ops o env s.h;split at h
   ·rename_i st v h1 f he;rw [he]at hS;obtain⟨pre,hs,hp⟩:=hS;rw [hs]at sem;have hst:=(sem hp).stat;cases hq:(o.guard.isNone|| !st)with
    |true=>
     rw [hq]at h;simp only [YaL]at h;cases hw:wok C f.W with
     |false=>rw [hw]at h;cases h
     |true=>rw [hw]at h;simp only [YaL]at h;obtain⟨hT',hh'⟩:=zdf hT hdo v h1;have ih:=zii hΓ hΔ os (i+1) (s.put o.dst v h1) _ o' s' _ h hT' hds;rw [hh']at ih;exact(Gr.of hst hw).trans ih
    |false=>rw [hq]at h;simp only [Ycy]at h;obtain⟨hT',hh'⟩:=zdf hT hdo (.opt true v) s.h;have ih:=zii hΓ hΔ os (i+1) (s.put o.dst (.opt true v) s.h) _ o' s' _ h hT' hds;rw [hh']at ih;exact ih
   ·cases d with
    |false=>cases h;exact Gr.refl _ _
    |true=>
     simp only [YaL]at h;cases hc:(zee ops i&&chk ops acc)with
     |false=>rw [hc]at h;cases h
     |true=>rw [hc]at h;cases h;exact Gr.refl _ _
   ·cases h
  ·obtain⟨hT',hh'⟩:=zdf hT hdo (zpX C P (evT s.t) o.op s.h).1 s.h;have ih:=zii hΓ hΔ os (i+1) _ _ o' s' _ h hT' hds;rw [hh']at ih;exact ih
  ·cases h
theorem zif {C:Cfg}{ops:Array Oper}{d:Bool}:∀(os:List Oper) (i:Nat) (s:TS) (acc:List (Nat×Foot)) (o':Out) (s':TS),
 eRun C P ops d os i s acc=some (o',s')→(∃ env,TE s.t env)→(∀ o∈os,∀ d,o.dst=some d→d<4095)→∃ env,TE s'.t env
 |[],i,s,acc,o',s',h,hT,hd=>by
  unfold eRun at h;cases d with
  |false=>cases h;exact hT
  |true=>
   simp only [YaL]at h;cases hc:chk ops acc with
   |true=>rw [hc]at h;cases h;exact hT
   |false=>rw [hc]at h;cases h
 |o::os,i,s,acc,o',s',h,⟨env,hT⟩,hd=>by
  unfold eRun at h;have hdo:=hd o (by simp);have hds:∀ o∈os,∀ d,o.dst=some d→d<4095:=fun o ho=>hd o (Yz _ ho);split at h
  ·split at h
   ·rename_i st v h1 f he;cases hq:(o.guard.isNone|| !st)with
    |true=>
     rw [hq]at h;simp only [YaL]at h;cases hw:wok C f.W with
     |false=>rw [hw]at h;cases h
     |true=>rw [hw]at h;exact zif os (i+1) _ _ o' s' h ⟨_,(zdf hT hdo v h1).1⟩ hds
    |false=>rw [hq]at h;exact zif os (i+1) _ _ o' s' h ⟨_,(zdf hT hdo _ _).1⟩ hds
   ·cases d with
    |false=>cases h;exact⟨env,hT⟩
    |true=>
     simp only [YaL]at h;cases hc:(zee ops i&&chk ops acc)with
     |false=>rw [hc]at h;cases h
     |true=>rw [hc]at h;cases h;exact⟨env,hT⟩
   ·cases h
  ·exact zif os (i+1) _ _ o' s' h ⟨_,(zdf hT hdo _ _).1⟩ hds
  ·cases h
def Grw(C:Cfg)(s s':TS):Prop:=(∃ env,TE s.t env)→Gr C s.h s'.h∧∃ env,TE s'.t env
theorem Grw.refl(C:Cfg)(s:TS):Grw C s s:=fun h=>⟨Gr.refl _ _,h⟩
theorem Grw.trans {C:Cfg}{s s' s'':TS}(p:Grw C s s')(q:Grw C s' s''):Grw C s s'':=fun h=>
 let ⟨p1,p2⟩:=p h
 let ⟨q1,q2⟩:=q p2
 ⟨p1.trans q1,q2⟩
def GrwL(C:Cfg)(s:TS)(l:List (Out×TS)):Prop:=∀ p∈l,Grw C s p.2
theorem GrwL.one {C:Cfg}{s:TS}{o:Out}{s':TS}(h:Grw C s s'):GrwL C s [(o,s')]:=fun p hp=>by simp only [Yah]at hp;subst hp;exact h
theorem zha {C:Cfg}{f:TS→OL}{s:TS}(hf:∀ s' l,f s'=some l→GrwL C s' l):∀ {l l':List (Out×TS)},zi7 f l=some l'→GrwL C s l→GrwL C s l'
 |[],l',h,_,p,hp=>by cases h;cases hp
 |(o,s1)::r,l',h,hg,p,hp=>by
  have hg1:=hg (o,s1) (YF ..);have hgr:GrwL C s r:=fun q hq=>hg q (Yz _ hq);unfold zi7 at h;have other:∀ {o:Out},(match zi7 f r with|some l''=>some ((o,s1)::l'')|none=>none)=some l'→Grw C s p.2:=by
   intro o h;split at h
   ·rename_i l2 h2;cases h;rcases YA.1 hp with rfl|hp
    ·exact hg1
    ·exact zha hf h2 hgr p hp
   ·cases h
  cases o with
  |norm=>
   cases r with
   |nil=>exact hg1.trans (hf s1 l' h p hp)
   |cons p2 r2=>
    simp only at h;split at h
    ·rename_i l1 h1;split at h
     ·rename_i l2 h2;cases h;rcases Yaf.1 hp with hp|hp
      ·exact hg1.trans (hf s1 l1 h1 p hp)
      ·exact zha hf h2 hgr p hp
     ·cases h
    ·cases h
  |exit i=>exact other h
  |ret=>exact other h
  |panic v=>exact other h
theorem zzu {C:Cfg}{id:Nat}{s:TS}:∀ {l:List (Out×TS)},GrwL C s l→GrwL C s (endB id l)
 |[],_,p,hp=>by cases hp
 |q::r,h,p,hp=>by
  have hq:=h q (YF ..);rcases YA.1 (show p∈_::endB id r from hp)with rfl|hp
  ·obtain⟨o,s1⟩:=q;cases o with
   |exit i=>simp only;cases Nat.beq i id<;>exact hq
   |norm=>exact hq
   |ret=>exact hq
   |panic v=>exact hq
  ·exact zzu (fun q hq=>h q (Yz _ hq)) p hp
theorem zrK {C:Cfg}{f:TS→OL}(hf:∀ s l,f s=some l→GrwL C s l):∀(n:Nat) (s:TS) (l:List (Out×TS)),zu4 f n s=some l→GrwL C s l
 |0,s,l,h=>by cases h
 |n+1,s,l,h=>by
  unfold zu4 at h;cases hr:f s with
  |none=>rw [hr]at h;cases h
  |some l1=>rw [hr]at h;exact zha (zrK hf n) h (hf s l1 hr)
theorem zsB {x:V}{H:Hp}{l:List XR}(h:zj7 x H=some l):∀ q∈l,Stat H q.h q.W:=by
 intro q hq;unfold zj7 at h;split at h;rotate_left;·cases h
 split at h
 ·cases h;simp only [Yah]at hq;subst hq;exact Stat.kill (by assumption)
 ·split at h;rotate_left;·cases h
  split at h;rotate_left;·cases h
  split at h
  ·cases h;simp only [Yah]at hq;subst hq;exact Stat.kill (by assumption)
  ·cases h;obtain⟨e,_,rfl⟩:=Yab.1 hq;exact Stat.put (by assumption)
 ·cases h
theorem znC {C:Cfg}{ops:Array Oper}{o:Oper}{os:List Oper}{s:TS}:∀ {qs:List XR} {l:List (Out×TS)},zu5 C P ops o os s qs=some l→
 ∀ p∈l,∃ q∈qs,wok C q.W=true∧eRun C P ops false os 1 (s.put o.dst q.v q.h) []=some p
 |[],l,h,p,hp=>by cases h;cases hp
 |q::r,l,h,p,hp=>by
  unfold zu5 at h;cases hw:wok C q.W with
  |false=>rw [hw]at h;cases h
  |true=>
   rw [hw]at h;simp only [YaL]at h;split at h
   ·rename_i p1 hp1;split at h
    ·rename_i l2 h2;cases h;rcases YA.1 hp with rfl|hp
     ·exact⟨q,YF ..,hw,hp1⟩
     ·obtain⟨q',k1,k2,k3⟩:=znC h2 p hp;exact⟨q',Yz _ k1,k2,k3⟩
    ·cases h
   ·cases h
theorem znz {C:Cfg}(hΓ:zcP P C)(hΔ:∀ f ags H r,C.Δ f ags H=some r→r.pre){ops:Array Oper}:∀(os:List Oper) (s:TS) (l:List TP) (e:TS) (env:Env),zgy C P os s=some (l,e)→TE s.t env→
 (∀ o∈os,∀ d,o.dst=some d→d<4095)→Gr C s.h e.h∧∃ env',TE e.t env'
 |[],s,l,e,env,h,hT,_=>by unfold zgy at h;cases h;exact⟨Gr.refl _ _,_,hT⟩
 |o::os,s,l,e,env,h,hT,hd=>by
  unfold zgy at h;split at h
  ·cases h
  split at h;rotate_left;·cases h
  rename_i st v h' f he;have hS:=zg6 (P:=P) hΔ hT o.op s.h;have sem:=zcF (P:=P) hΓ ops o env s.h;rw [he]at hS;obtain⟨pre,hs,hp⟩:=hS;rw [hs]at sem;have hst:=(sem hp).stat;cases hw:wok C f.W with
  |false=>rw [hw]at h;cases h
  |true=>
   rw [hw]at h;simp only [YaL]at h;split at h;rotate_left;·cases h
   rename_i l' e' hr;cases h;obtain⟨hT',hh'⟩:=zdf hT (hd o (by simp)) v h';obtain⟨g1,g2⟩:=znz hΓ hΔ (ops:=ops) os _ l' e _ hr hT' fun o ho=>hd o (Yz _ ho);rw [hh']at g1;exact⟨(Gr.of hst hw).trans g1,g2⟩
theorem zu3 {C:Cfg}(hΓ:zcP P C)(hΔ:∀ f ags H r,C.Δ f ags H=some r→r.pre)(hnt:C.nt≤4000){id:Nat}{ops:Array Oper}{d:Bool}{s:TS}{l:List (Out×TS)}
 (hc:zar C.nt (.region id ops d)=true) (h:zij C P ops d s=some l):GrwL C s l:=by
 simp only [zar,Yc]at hc
 have hd:∀ o∈ops.toList,∀ d,o.dst=some d→d<4095:=fun o ho d e=>Yo (zbz hc.1 o ho d e) (Yn hnt (by decide))
 have plain:single (eRun C P ops d ops.toList 0 s [])=some l→GrwL C s l:=by
  intro h;cases hr:eRun C P ops d ops.toList 0 s []with
  |none=>rw [hr]at h;cases h
  |some p=>obtain⟨o',s'⟩:=p;rw [hr]at h;cases h;refine GrwL.one ?_;rintro⟨env,hT⟩;exact⟨zii hΓ hΔ _ _ _ _ _ _ env hr hT hd,zif _ _ _ _ _ _ hr ⟨env,hT⟩ hd⟩
 unfold zij at h
 split at h
 ·rename_i o os ho
  split at h
  ·rename_i it hop hg
   split at h
   rotate_left;·cases h
   rename_i v hv
   split at h
   rotate_left;·cases h
   rename_i qs hqs
   intro p hp
   obtain⟨q,hq,hw,hrun⟩:=znC h p hp
   rintro⟨env,hT⟩
   obtain⟨hT',hh'⟩:=zdf hT (hd o (by rw [ho];exact YF ..)) q.v q.h
   have hds:∀ o'∈os,∀ d,o'.dst=some d→d<4095:=fun o' ho'=>hd o' (by rw [ho];exact Yz _ ho')
   have g1:=zii hΓ hΔ os 1 (s.put o.dst q.v q.h) [] p.1 p.2 _ hrun hT' hds
   rw [hh']at g1
   exact⟨(Gr.of (zsB hqs q hq) hw).trans g1,zif os 1 _ [] p.1 p.2 hrun ⟨_,hT'⟩ hds⟩
  ·rw [←ho]at h;exact plain h
 ·exact plain h
 ·split at h
  ·rename_i p hp
   exact plain (by rw [hp];exact h)
  ·unfold eLate at h
   split at h
   rotate_left;·cases h
   rename_i tr e htr
   cases hc2:((List.range tr.length).all fun i=>(List.range tr.length).all fun j=> !decide (i<j)||zrx P ops (masks ops) tr i j)with
   |false=>rw [hc2]at h;cases h
   |true=>
   rw [hc2]at h
   cases h
   refine GrwL.one ?_
   rintro⟨env,hT⟩
   exact znz hΓ hΔ (ops:=ops) _ _ _ _ env htr hT hd
theorem zdJ {C:Cfg}{N:Nat}(hΓ:zcP P C)(hΔ:∀ f ags H r,C.Δ f ags H=some r→r.pre)(hnt:C.nt≤4000):
 ∀(c:Code) (s:TS) (l:List (Out×TS)),zar C.nt c=true→zdK C P N c s=some l→GrwL C s l
 | .skip,s,l,_,h=>by cases h;exact GrwL.one (Grw.refl _ _)
 | .ret,s,l,_,h=>by cases h;exact GrwL.one (Grw.refl _ _)
 | .exit id,s,l,_,h=>by cases h;exact GrwL.one (Grw.refl _ _)
 | .seq x y,s,l,hc,h=>by
  simp only [zar,Yc]at hc;unfold zdK at h;cases hr:zdK C P N x s with
  |none=>rw [hr]at h;cases h
  |some l1=>rw [hr]at h;exact zha (fun s' l h=>zdJ hΓ hΔ hnt y s' l hc.2 h) h (zdJ hΓ hΔ hnt x s l1 hc.1 hr)
 | .block id x,s,l,hc,h=>by
  unfold zdK at h;cases hr:zdK C P N x s with
  |none=>rw [hr]at h;cases h
  |some l1=>rw [hr]at h;cases h;exact zzu (zdJ hΓ hΔ hnt x s l1 hc hr)
 | .cond c x y,s,l,hc,h=>by
  simp only [zar,Yc]at hc;unfold zdK at h;split at h
  ·rename_i b hb;cases b with
   |true=>exact zdJ hΓ hΔ hnt x s l hc.1 h
   |false=>exact zdJ hΓ hΔ hnt y s l hc.2 h
  ·cases h
 | .region id ops d,s,l,hc,h=>zu3 hΓ hΔ hnt hc h
 | .loop x,s,l,hc,h=>zrK (fun s l h=>zdJ hΓ hΔ hnt x s l hc h) N s l h
 | .rangeFunc ..,_,_,_,h=>by cases h
 | .scope _,_,_,_,h=>by cases h
 | .label _,_,_,_,h=>by cases h
 | .goto _,_,_,_,h=>by cases h
 | .refuse _,_,_,_,h=>by cases h
theorem zon:∀(i:Nat) (t:Tr) (l:List V) (k:Nat),i+l.length≤4095→(zvW i t l).get k=if i≤k∧k<i+l.length then l[k - i]? else t.get k
 |i,t,[],k,h=>by rw [Yd (by simp only [YU];omega)];rfl
 |i,t,a::r,k,h=>by
  simp only [Ym]at h ⊢;show (zvW (i+1) (t.set a i) r).get k=_;rw [zon (i+1) _ r k (by omega),zlx a t i k (by omega)];by_cases hk:k=i
  ·subst hk;rw [Yd (by omega),Yf rfl,Yf (by omega)];simp
  ·by_cases hi:i+1≤k∧k<i+1+r.length
   ·rw [Yf hi,Yf (by omega),show k - i=(k - (i+1))+1 by omega];simp
   ·rw [Yd hi,Yd hk,Yd (by omega)]
theorem zj1:∀(i:Nat) (l:List V) (k:Nat),(zbX i l).lookup k=if i≤k∧k<i+l.length then l[k - i]? else none
 |i,[],k=>by rw [Yd (by simp only [YU];omega)];rfl
 |i,a::r,k=>by
  simp only [Ym];rw [zbX,Yq,zj1 (i+1) r k];by_cases hk:k=i
  ·subst hk;simp
  ·have hb:(k==i)=false:=by simp [hk]
   rw [hb];by_cases hi:i+1≤k∧k<i+1+r.length
   ·rw [Yf hi,Yf (by omega),show k - i=(k - (i+1))+1 by omega];simp
   ·rw [Yd hi,Yd (by omega)]
theorem argTE {l:List V}(h:l.length≤4000):TE (zvW 0 .nil l) (zbX 0 l):=fun k=>by rw [zon 0 .nil l k (by omega),zj1];rfl
theorem zpY {s:TS}{env:Env}(hT:TE s.t env):∀(rs:List ResultVar) (l:List V),eRes P s rs=some l→(resL P ⟨env,s.h⟩ rs).1∧(resL P ⟨env,s.h⟩ rs).2=l
 |[],l,h=>by cases h;exact⟨trivial,rfl⟩
 | .tmp t::r,l,h=>by
  unfold eRes at h;split at h
  ·rename_i l1 h1;cases h;obtain⟨h2,h3⟩:=zpY hT r l1 h1;refine⟨h2,?_⟩;show ((env.lookup t).getD .any::(resL P ⟨env,s.h⟩ r).2)=_;rw [h3, ←hT t]
  ·cases h
 | .cell c t::r,l,h=>by
  unfold eRes at h;cases hp:zxR P t ((s.t.get c).getD .any) s.h with
  |false=>rw [hp]at h;cases h
  |true=>
   rw [hp]at h;simp only [YaL]at h;split at h
   ·rename_i l1 h1;cases h;obtain⟨h2,h3⟩:=zpY hT r l1 h1;have hl:=zrd hp;refine⟨⟨?_,h2⟩,?_⟩
    ·show (zcr P t ((env.lookup c).getD .any) s.h).pre;rw [←hT c];exact hl
    ·show ((zcr P t ((env.lookup c).getD .any) s.h).v::(resL P ⟨env,s.h⟩ r).2)=_;rw [h3, ←hT c]
   ·cases h
theorem mem_keysOf {l:List (Nat×Blk)}{b:Nat}:b∈keysOf l↔∃ x,l.lookup b=some x:=by
 induction l with
 |nil=>simp [keysOf]
 |cons p r ih=>
  obtain⟨k,y⟩:=p;rw [Yq];by_cases hb:b=k
  ·subst hb;simp [keysOf]
  ·have:(b==k)=false:=by simp [hb]
   rw [this];simp only;rw [←ih];simp [keysOf,hb]
theorem zh3 {n:Nat}{K:List Nat}{h:Hp}{b:Nat}:(zcK n K h).get b=if (Nat.blt b n||K.contains b)=true then h.get b else none:=
 zbJ (fun b=>Nat.blt b n||K.contains b) b h.bs
theorem zfM {n:Nat}{K:List Nat}{h:Hp}{b:Nat}{x:Blk}(e:(zcK n K h).get b=some x):h.get b=some x:=by
 rw [zh3]at e;split at e
 ·exact e
 ·cases e
theorem zjR {n:Nat}{K:List Nat}{h:Hp}{b:Nat}(hb:b<n):(zcK n K h).get b=h.get b:=by rw [zh3,Yf (by simp [hb])]
theorem zjq {H:Hp}:∀(n:Nat) {l:List Nat} {b:Nat},b∈reach H n l→∃ x,H.get b=some x
 |0,l,b,h=>by have:=(Yaq.1 h).2;exact Yav.1 this
 |n+1,l,b,h=>zjq n h
theorem zwo {n:Nat}{args:List V}{H:Hp}{b:Nat}(h:b∈wrOf n args H):∃ x,H.get b=some x:=by
 cases n with
 |zero=>cases h
 |succ n=>exact zjq n h
theorem zmR(a b:Hp):a.next≤(zrg a b).next∧b.next≤(zrg a b).next:=by
 unfold zrg;cases hq:Nat.ble a.next b.next with
 |true=>exact⟨Ycv hq,Ye _⟩
 |false=>
  refine⟨Ye _,?_⟩;have:¬a.next≤b.next:=fun h=>by rw [Nat.ble_eq_true_of_le h]at hq;cases hq
  show b.next≤a.next;omega
theorem znA {f:Out×TS→Option AR}:∀ {l:List (Out×TS)} {r:AR},eOuts f l=some r→(∃ p∈l,∃ a,f p=some a∧r=⟨a.pre,a.v,r.h,a.R,a.W⟩)∧∀ p∈l,∃ a,f p=some a∧a.v=r.v∧a.h.bs=r.h.bs∧a.h.next≤r.h.next
 |[],r,h=>by cases h
 |p::q,r,h=>by
  unfold eOuts at h;cases q with
  |nil=>refine⟨⟨p,YF ..,r,h,rfl⟩,fun p' hp=>?_⟩;simp only [Yah]at hp;subst hp;exact⟨r,h,rfl,rfl,Ye _⟩
  |cons p2 r2=>
   simp only at h;split at h;rotate_left;·cases h
   rename_i a ha;split at h;rotate_left;·cases h
   rename_i b hb;obtain⟨⟨p3,h3,a3,h4,h6⟩,h5⟩:=znA hb;cases hq:(beqV a.v b.v&&zqx a.h.bs b.h.bs)with
   |false=>rw [hq]at h;cases h
   |true=>
    rw [hq]at h;cases h;simp only [Yc]at hq;refine⟨⟨p3,Yz _ h3,a3,h4,by rw [h6]⟩,fun p' hp=>?_⟩;rcases YA.1 hp with rfl|hp
    ·exact⟨a,ha,ziz hq.1,zsn hq.2,(zmR _ _).1⟩
    ·obtain⟨a',e1,e2,e3,e4⟩:=h5 p' hp;exact⟨a',e1,e2,e3,Yn e4 (zmR _ _).2⟩
def zhc(P:Program)(E:ECfg):Prop:=∀ rec,(∀ f args H r,rec f args H=some r→r.pre∧HCall P f args H r)→∀ f args H r,E.spec rec f args H=some r→r.pre∧HCall P f args H r
theorem eBody_ok {E:ECfg}(hm:P.follows .mixedOrders=true)(hΓ:∀ f args r,E.Γ f args=some r→PCall P f args r){rec:FuncId→List V→Hp→Option AR}
 (ihn:∀ f args H r,rec f args H=some r→r.pre∧HCall P f args H r) (f:FuncId) (hcan:zk P f) (args:List V) (H:Hp) (r:AR) (h:eBody E P rec f args H=some r):r.pre∧HCall P f args H r:=by
 unfold eBody at h
 split at h
 rotate_left;·cases h
 rename_i fn hfn
 split at h
 rotate_left;·cases h
 rename_i c hbody
 cases hck:(zar fn.ntmps c&&Nat.ble args.length fn.ntmps&&Nat.ble fn.ntmps 4000)with
 |false=>rw [hck]at h;cases h
 |true=>
 rw [hck]at h
 simp only [YaL]at h
 simp only [Yc,YbI]at hck
 obtain⟨⟨hcode,hargs⟩,hnt⟩:=hck
 generalize hW:wrOf (E.wr f) args H=W at h
 have hWk:∀ b∈W,b∈keysOf H.bs:=by intro b hb;rw [←hW]at hb;obtain⟨x,hx⟩:=zwo hb;exact mem_keysOf.2 ⟨x,hx⟩
 let C:Cfg:=⟨fn.ntmps,fun _=>true,E.Γ,rec,H.next,W,E.fz⟩
 have hG:zcP P C:=⟨hΓ,fun f args H r e=>(ihn f args H r e).2⟩
 have hD:∀ f ags H r,C.Δ f ags H=some r→r.pre:=fun f ags H r e=>(ihn f ags H r e).1
 split at h
 rotate_left;·cases h
 rename_i l hrun
 have hTE:TE (zvW 0 .nil args) (zbX 0 args):=argTE (by omega)
 obtain⟨⟨p0,hp0,a0,hfp0,hra⟩,hall⟩:=znA h
 have outs:∀ {o:Out} {s:TS} {a:AR},eOut P fn W H (o,s)=some a→(o=.norm∨o=.ret)∧∃ l,eRes P s fn.results.toList=some l∧a=⟨True,tupV l,zcK H.next (close s.h 100000 (zeV W l s.h) []) s.h,keysOf H.bs,W⟩:=by
  intro o s a ha;unfold eOut at ha;simp only at ha;split at ha
  ·split at ha
   ·rename_i l hl;cases ha;exact⟨.inl rfl,l,hl,rfl⟩
   ·cases ha
  ·split at ha
   ·rename_i l hl;cases ha;exact⟨.inr rfl,l,hl,rfl⟩
   ·cases ha
  ·cases ha
 have main:∀ {o:Out} {s:TS},(o,s)∈l→(o=.norm∨o=.ret)∧∃ l,eRes P s fn.results.toList=some l∧r=⟨True,tupV l,⟨(zcK H.next (close s.h 100000 (zeV W l s.h) []) s.h).bs,r.h.next⟩,keysOf H.bs,W⟩∧s.h.next≤r.h.next:=by intro o s hp;obtain⟨a,ha,hav,hah,hle⟩:=hall _ hp;obtain⟨ho,lv,hl,rfl⟩:=outs ha;obtain⟨_,lv0,hl0,hr0⟩:=outs (o:=p0.1) (s:=p0.2) hfp0;refine⟨ho,lv,hl,?_,hle⟩;subst hr0;simp only at hav hah;have hv0:r.v=tupV lv0:=Ya6 AR.v hra;rw [hav,hah,hv0];exact hra
 have hgrs:=zdJ (C:=C) hG hD hnt c _ _ hcode hrun
 obtain⟨o0,s0⟩:=p0
 obtain⟨hgr,envE,hTE'⟩:=hgrs _ hp0 ⟨_,hTE⟩
 obtain⟨_,l0,hl0,hr0,hle0⟩:=main hp0
 generalize hN:r.h.next=N at hr0 hle0
 have hfr:∀ b,b<H.next→b∉W→s0.h.get b=H.get b:=fun b hb hw=>hgr.frame (Ye _) b hb hw
 have live:∀ b∈keysOf H.bs,∃ x,H.get b=some x:=fun b hb=>mem_keysOf.1 hb
 refine⟨by rw [hr0];trivial,fun _=>?_,?_⟩
 ·rw [hr0]
  exact⟨Yn hgr.next hle0,fun b hb hw=>by show (zcK H.next (close s0.h 100000 (zeV W l0 s0.h) []) s0.h).get b=_;rw [zjR hb];exact hfr b hb hw,fun b hb=>live b (hWk b hb),fun hk b x e=>Yo (hgr.keys hk b x (zfM e)) hle0⟩
 intro _ g base D w vs hgl hI hvs hpw hDD
 refine .inl ⟨hcan vs w,calls_of_wp hfn hbody ?_⟩
 rw [hr0]at hDD
 have hDk:∀ b x,H.get b=some x→D b:=fun b x e=>hDD b (Yp _ (mem_keysOf.2 ⟨x,e⟩))
 have hinv:Inv g base H (fun _=>True) w:=
  ⟨hI.frz,hI.dom,hI.keys,fun b x _ e=>hI.cont b x (hDk b x e) e,fun b b' x x' T T' _ _ e e'=>hI.inj b b' x x' T T' (hDk b x e) (hDk b' x' e') e e',hI.base⟩
 have he:Entry C base (fun _=>True) g H w:=⟨hinv,rfl,fun _ _=>trivial⟩
 have hpost:Post g g base H H (fun _=>True) C.Wm w w:=(Post.refl hinv rfl rfl ⟨rfl,Ye _⟩ rfl).weaken (fun _ h=>by cases h)
 have hr:Rel C base (fun _=>True) g H w g ⟨zbX 0 args,H⟩ { tmps:=vs++Array.replicate (fn.ntmps - vs.size) undef,defers:=[] } w:=by
  refine⟨⟨hgl,by simp [C];omega,fun t v e=>?_⟩,rfl,hpost⟩;obtain⟨_,h1⟩:=zcy 0 args t v e;have hlt:=(Yx.1 h1).1;obtain⟨u,hu,ru⟩:=hpw _ _ h1;have hu':vs[t]? =some u:=hu;have:(vs++Array.replicate (fn.ntmps - vs.size) undef).getD t undef=u:=by rw [YW,YaT (by simp at hlt;omega),hu'];rfl
  rw [this];exact ru
 have hax:=zdI (C:=C) (K:=fun o' s'=>∃ p∈l,o'=p.1∧TE p.2.t s'.env∧s'.h=p.2.h) hm hG rfl hD hnt c _ _ _ hcode hrun hTE (fun p hp env h=>⟨p,hp,rfl,h,rfl⟩)
 refine wp_mono (hax base _ g _ w g _ w he hr) fun e a w' ⟨o1,s1,g1,h1,h2,h3⟩=>?_
 obtain⟨⟨o,s⟩,hpl,rfl,hte,hh⟩:=h1
 obtain⟨env1,hh1⟩:=s1
 obtain rfl:hh1=s.h:=hh
 obtain⟨ho,l,hl,hr9,hle⟩:=main hpl
 rw [hN]at hr9 hle
 subst hr9
 obtain⟨hrp,hrv⟩:=zpY hte fn.results.toList l hl
 obtain⟨vc,hrunr,hv⟩:=zf3 (P:=P) (w:=w') h3.post.inv (fun b=>.inl trivial) hrp h3.env
 have hv':VRel g1 (tupV l) vc:=by
  have e:resV P fn ⟨env1,s.h⟩=tupV l:=by unfold resV;rw [hrv]
  rw [←e];exact hv
 have p:=h3.post
 have hinv':Inv g1 base ⟨(zcK H.next (close s.h 100000 (zeV W l s.h) []) s.h).bs,N⟩ (fun b=>D b∨H.next≤b) w':=
  ⟨p.inv.frz,fun b T e=>⟨Yo (p.inv.dom b T e).1 hle,(p.inv.dom b T e).2⟩,fun b x e=>Yo (p.inv.keys b x (zfM e)) hle,fun b x _ e=>p.inv.cont b x (.inl trivial) (zfM e),
   fun b b' x x' T T' _ _ e e'=>p.inv.inj b b' x x' T T' (.inl trivial) (.inl trivial) (zfM e) (zfM e'),p.inv.base⟩
 have hp':Post g g1 base H ⟨(zcK H.next (close s.h 100000 (zeV W l s.h) []) s.h).bs,N⟩ D W w w':=
  ⟨p.le,hinv',p.newmu,p.newphi,p.frame,p.size,p.os,p.tape,p.output,fun b hb hw=>by show (zcK H.next _ s.h).get b=_;rw [zjR hb];exact p.aframe b hb hw,Yn p.anext hle⟩
 have fin:a.defers=[]∧∃ v,(results fn a.tmps).run P w'=.ok v w'∧∃ g' vc,Ending.returned v=.returned vc∧VRel g' (tupV l) vc∧Post g g' base H ⟨(zcK H.next (close s.h 100000 (zeV W l s.h) []) s.h).bs,N⟩ D W w w':=
  ⟨h3.defers,vc,hrunr,g1,vc,rfl,hv',hp'⟩
 rcases ho with rfl|rfl<;>cases e<;>first|exact h2.elim|exact fin
theorem zxj {L:List Nat}{H:Hp}(b:Nat):(restr L H).get b=if L.contains b=true then H.get b else none:=zbJ (fun b=>L.contains b) b H.bs
theorem joinR_ok {f:FuncId}{args:List V}{L:List Nat}{H:Hp}{r:AR}(h:HCall P f args (restr L H) r):HCall P f args H (joinR L H r):=by
 refine HCall.frame (H1:=restr L H) (q:=fun b=>L.contains b) (join:=⟨r.h.bs++zxk L H,r.h.next⟩) rfl zxj (fun b=>?_) rfl h;show (r.h.bs++zxk L H).lookup b=_;rw [zjD];have e0:r.h.get b=r.h.bs.lookup b:=rfl;cases hr:r.h.bs.lookup b with
 |some x=>rw [e0,hr]
 |none=>
  rw [e0,hr];show (H.bs.filter fun p=> !L.contains p.1).lookup b=_;rw [zbJ (fun b=> !L.contains b) b H.bs];cases hq:L.contains b with
  |true=>simp
  |false=>simp;rfl
theorem eFn_ok {E:ECfg}(hm:P.follows .mixedOrders=true)(hΓ:∀ f args r,E.Γ f args=some r→PCall P f args r)(hcan:∀ f,E.can f=true→zk P f)(hsp:zhc P E):
 ∀(n:Nat) (f:FuncId) (args:List V) (H:Hp) (r:AR),eFn E P n f args H=some r→r.pre∧HCall P f args H r
 |0,f,args,H,r,h=>by cases h
 |n+1,f,args,H,r,h=>by
  unfold eFn at h;have ihn:=eFn_ok hm hΓ hcan hsp n;split at h
  ·rename_i r' hr';cases h;exact hsp _ ihn f args H r hr'
  cases hcf:E.can f with
  |false=>rw [hcf]at h;cases h
  |true=>
   rw [hcf]at h;simp only [YaL]at h;split at h
   ·rename_i r1 h1;cases h;obtain⟨p,q⟩:=eBody_ok hm hΓ ihn f (hcan f hcf) args _ r1 h1;exact⟨p,joinR_ok q⟩
   ·cases h
end Go.Ab

namespace Go.Ab
variable {P:Program}
theorem PCall.ofH {f:FuncId}{args:List V}{r:AR}(h:HCall P f args ⟨[],0⟩ r)(hp:r.pre)(_hR:r.R=[])(hW:r.W=[])(hs:zaA r.v=true)(hpure:∀ x∈args,Pure x):PCall P f args (.ret r.v):=by
 obtain⟨_,hrun⟩:=h;intro g w vs hgl hfrz hvs hpw;let g0:G:=⟨fun _=>none,g.phi⟩
 have hinv:Inv g0 w.heap.size ⟨[],0⟩ (fun _=>True) w:=
  ⟨hfrz,fun b T e=>(by cases e),fun b x e=>(by cases e),fun b x _ e=>(by cases e),fun b b' x x' T T' _ _ e=>(by cases e),Ye _⟩
 have hpw0:PW g0 args (fun i=>vs[i]?):=fun i x hx=>by obtain⟨u,hu,ru⟩:=hpw i x hx;exact⟨u,hu,VRel.pure (g:=g) (g':=g0) (fun c a e=>e) ru (hpure x (YR hx))⟩
 refine(hrun hp g0 w.heap.size (fun _=>True) w vs (hgl.mono (fun c a e=>e)) hinv hvs hpw0 (fun _ _=>trivial)).mono fun e w' q=>?_;obtain⟨g',vc,rfl,hv,p⟩:=q;refine⟨fun _=>none,vc,fun c a e=>(by cases e),⟨p.os,p.tape,p.output,p.size,fun k hk=>p.frame k hk fun b hb=>by rw [hW]at hb;cases hb⟩,rfl,zeC hs hv⟩
noncomputable def eAns(E:ECfg)(P:Program)(n:Nat)(f:FuncId)(args:List V):Option V:=
 match eFn E P n f args ⟨[],0⟩with
 |some r=>bif zaA r.v&&r.R.isEmpty&&r.W.isEmpty then some r.v else none
 |none=>none
theorem zpZ {E:ECfg}(hm:P.follows .mixedOrders=true)(hΓ:∀ f args r,E.Γ f args=some r→PCall P f args r)(hcan:∀ f,E.can f=true→zk P f)(hsp:zhc P E)
 {n:Nat} {f:FuncId} {args:List V} {v:V} (hpure:∀ x∈args,Pure x) (h:eAns E P n f args=some v):PCall P f args (.ret v):=by
 unfold eAns at h
 split at h
 rotate_left;·cases h
 rename_i r hr
 cases hs:(zaA r.v&&r.R.isEmpty&&r.W.isEmpty)with
 |false=>rw [hs]at h;cases h
 |true=>
  rw [hs]at h
  cases h
  simp only [Yc,List.isEmpty_iff]at hs
  obtain⟨h1,h2⟩:=eFn_ok hm hΓ hcan hsp n f args _ r hr
  exact PCall.ofH h2 h1 hs.1.2 hs.2 hs.1.1 hpure
def canB(P:Program)(f:FuncId):Bool:=
 match P.funcs[f]? with
 |some fn=>fn.body.isSome&& !(fn.name== "runtime.NumGoroutine")
 |none=>false
theorem canB_ok {f:FuncId}(h:canB P f=true):zk P f:=by
 unfold canB at h;split at h;rotate_left;·cases h
 rename_i fn hf;simp only [Yc,Yaa,YcF,ne_eq]at h;obtain⟨hb,hn⟩:=h;intro a w;cases hbb:fn.body with
 |none=>rw [hbb]at hb;cases hb
 |some c=>simp [callFunc,hf,hn,hbb]
def canL(l:List Nat)(n:Nat)(f:FuncId):Bool:=Nat.ble f n&& !(l.contains f)
theorem zau {l:List Nat}{n:Nat}(h:((List.range (n+1)).all fun f=>l.contains f||canB P f)=true)(f:FuncId)(hf:canL l n f=true):zk P f:=by simp only [canL,Yc,Yaa]at hf;have:=Yg.1 h f (by simp;exact Nat.lt_succ_of_le (Ycv hf.1));rw [hf.2,Ybc]at this;exact canB_ok this
end Go.Ab

namespace Go.Proofs
open Tryz Go.Ab
theorem assert_nil(w:World):(Instr.typeAssert .nilIface 20 182 true).run prog w=.ok (.tuple #[.agg #[],.bool false]) w:=by
 have h1:prog.underlying 182=some (.struct #[]):=by kernel_rfl
 have h2:zaO prog 182=some (.agg #[]):=by kernel_rfl
 simp [Instr.typeAssert,run_underlying h1,zbk h2]
theorem catch_idle(p q:Value)(w:World):
 CallsD prog 177 #[p,q] .returning w fun e u' w'=>e=.returned (.tuple #[])∧u'=.returning∧w'=w.alloc (.cells #[] 182):=by
 refine callsD_of_wpS func177 rfl fun c₀ cs hu=>?_
 apply wpS_seq
 apply wpS_region
 simp [wpOpsS,go_sem,recoverD,hu,ntmps177,Exit.thenS,assert_nil]
 apply wpS_seq
 apply wpS_region
 simp [wpOpsS,go_sem,Exit.thenS]
 refine wpS_cond (t:=false) (by simp [Act.eval,Array.replicate]) ?_
 simp only [YO,if_false]
 refine wpS_of_wp (wp_skip ?_)
 cases c₀
 simp_all [bodyPostS,results,Tryz.results177]
theorem ziF {P:Program}{o:Oper}{a:Act}{next:Act→World→Prop}{Q:Exit→Act→World→Prop}{f:FuncId}{vs:Array Value}{w:World}{R:Ending→World→Prop}(h:GoCall P f vs w R)
 (hr:∀ e w',R e w'→match e with| .returned v=>next (a.put o.dst v) w'| .panicked ch=>Q (.panic ch) a w'| .outgrown=>False):Oper.upon P o a next Q ((callFunc f vs).run P w):=by
 rcases h with⟨h1,h2⟩|⟨v,w',h1,h2⟩
 ·rw [h1]
  refine h2.mono fun e w' q=>?_
  have:=hr e w' q
  cases e with
  |returned v=>exact this
  |panicked ch=>exact this
  |outgrown=>exact this.elim
 ·rw [h1]
  exact hr _ _ h2
theorem zje(w:World)(fid:FuncId)(caps:Array Value){R1:Value→World→Prop}{R:Ending→World→Prop}
 (h1:GoCall prog fid caps ((w.alloc (.cells #[.string .empty] 9)).alloc (.cells #[.int .i64 0] 27)) fun e w'=>∃ v,e=.returned v∧R1 v w')
 (h3:∀ v w',R1 v w'→Calls prog 178 #[v] w' fun e w''=>∃ s,e=.returned (.string s)∧
  w''.heap[w.heap.size]? =some (.cells #[.string .empty] 9 (0,0))∧w''.heap[w.heap.size+1]? =some (.cells #[.int .i64 0] 27 (0,0))∧
  R (.returned (.tuple #[.string s,.int .i64 0])) (((w''.setCell ⟨w.heap.size,0,none⟩ (.string s)).setCell ⟨w.heap.size+1,0,none⟩ (.int .i64 0)).alloc (.cells #[] 182))):
 Calls prog 146 #[.func (.func fid) #[] caps] w R:=by
 have hmf:∀(fn:Fn) (first cap:Array Value) (w:World),(Instr.makeFunc fn first cap).run prog w=.ok (.func fn first cap) w:=fun _ _ _ _=>rfl
 go_enter_defers func146,ntmps146
 go_wp2
 refine ziF h1 ?_
 rintro e w1 ⟨v,rfl,hR1⟩
 have h3':Calls prog 178 #[v] w1 fun e w2=>∃ s,e=.returned (.string s)∧w2.cell? ⟨w.heap.size,0,none⟩=some (.string .empty)∧w2.frozen? ⟨w.heap.size,0,none⟩=false∧
  (w2.setCell ⟨w.heap.size,0,none⟩ (.string s)).cell? ⟨w.heap.size+1,0,none⟩=some (.int .i64 0)∧(w2.setCell ⟨w.heap.size,0,none⟩ (.string s)).frozen? ⟨w.heap.size+1,0,none⟩=false∧
  ((w2.setCell ⟨w.heap.size,0,none⟩ (.string s)).setCell ⟨w.heap.size+1,0,none⟩ (.int .i64 0)).heap[w.heap.size]? =some (.cells #[.string s] 9 (0,0))∧
  ((w2.setCell ⟨w.heap.size,0,none⟩ (.string s)).setCell ⟨w.heap.size+1,0,none⟩ (.int .i64 0)).heap[w.heap.size+1]? =some (.cells #[.int .i64 0] 27 (0,0))∧
  R (.returned (.tuple #[.string s,.int .i64 0])) (((w2.setCell ⟨w.heap.size,0,none⟩ (.string s)).setCell ⟨w.heap.size+1,0,none⟩ (.int .i64 0)).alloc (.cells #[] 182)):=by
  refine(h3 v w1 hR1).mono ?_
  rintro e w2 ⟨s,rfl,hb1,hb2,hR⟩
  refine⟨s,rfl,by simp [World.cell?,hb1],by simp [World.frozen?,hb1],by simp [World.cell?,World.setCell,YaA,hb2],by simp [World.frozen?,World.setCell,YaA,hb2],
   by simp [World.setCell,YaA,hb1],by simp [World.setCell,YaA,hb2],hR⟩
 go_wp2_with (go_at_call 178;refine h3'.mono ?_;rintro e w2 ⟨s,rfl,hc1,hf1,hc2,hf2,hb1,hb2,hR⟩)
 generalize ((w2.setCell ⟨w.heap.size,0,none⟩ (.string s)).setCell ⟨w.heap.size+1,0,none⟩ (.int .i64 0))=W at hb1 hb2 hR ⊢
 refine leaves_cons (f:=177) (args:=#[.pointer (some ⟨w.heap.size,0,none⟩),.pointer (some ⟨w.heap.size+1,0,none⟩)]) (by simp) (by simp [go_sem]) ?_
 refine(catch_idle _ _ W).mono ?_
 rintro e u' w'' ⟨rfl,rfl,rfl⟩
 have old:∀(c:Nat) (o:Obj),W.heap[c]? =some o→(W.alloc (.cells #[] 182)).heap[c]? =some o:=by intro c o h;have hlt:c<W.heap.size:=(YJ.1 h).1;show (W.heap.push _)[c]? =_;rw [Yax hlt, ←h,Yai hlt]
 have e1:(W.alloc (.cells #[] 182)).cell? ⟨w.heap.size,0,none⟩=some (.string s):=by simp [World.cell?,old _ _ hb1]
 have e2:(W.alloc (.cells #[] 182)).cell? ⟨w.heap.size+1,0,none⟩=some (.int .i64 0):=by simp [World.cell?,old _ _ hb2]
 simp [Leaves,settle,results,Tryz.results146,go_sem,e1,e2]
 exact hR
theorem zeu {P:Program}{f:FuncId}{vs:Array Value}{w:World}{R:Ending→World→Prop}(hc:zk P f)(h:GoCall P f vs w R):Calls P f vs w R:=by
 rcases h with⟨_,h⟩|⟨v,w',h1,_⟩
 ·exact h
 ·rw [hc vs w]at h1;cases h1
theorem zz1:zk prog 146:=canB_ok (by kernel_rfl)
theorem can178:zk prog 178:=canB_ok (by kernel_rfl)
theorem zni(w:World)(n:Nat)(a b:Value)(o:Obj)(c:Nat)(hlt:c<w.heap.size)(h1:c≠n)(h2:c≠n+1):
 (((w.setCell ⟨n,0,none⟩ a).setCell ⟨n+1,0,none⟩ b).alloc o).heap[c]? =w.heap[c]? :=by
 have hsz:((w.setCell ⟨n,0,none⟩ a).setCell ⟨n+1,0,none⟩ b).heap.size=w.heap.size:=by simp [World.setCell]
 show (Array.push _ _)[c]? =_
 rw [Yax (by rw [hsz];exact hlt), ←Yai]
 rw [zbT h2,zbT h1]
theorem zwl {fid:FuncId}{caps:List V}{H:Hp}{r1 r2:AR}{s:List UInt8}(h1:r1.pre∧HCall prog fid caps H r1)(h2:r2.pre∧HCall prog 178 [r1.v] r1.h r2)(hv:r2.v=.str s):
 HCall prog 146 [.fn fid caps] H ⟨True,.tup [.str s,.int .i64 0],r2.h,r1.R++r2.R.filter (· <H.next),r1.W++r2.W.filter (· <H.next)⟩:=by
 obtain⟨p1,s1,c1⟩:=h1
 obtain⟨p2,s2,c2⟩:=h2
 refine⟨fun _=>(s1 p1).trans (s2 p2),fun _ g base D w vs hgl hI hvs hpw hD=>?_⟩
 obtain⟨vf,hvf,rf⟩:=hpw 0 _ rfl
 obtain⟨arr,rfl,hsz,hcp⟩:=rf.inv_fn
 have hvs':vs=#[.func (.func fid) #[] arr]:=by
  apply YaE;intro i;match i with
  |0=>exact hvf
  |i+1=>rw [YC (by simp at hvs;omega),YC (by simp)]
 subst hvs'
 let w2:=(w.alloc (.cells #[.string .empty] 9)).alloc (.cells #[.int .i64 0] 27)
 have hs2:w2.heap.size=w.heap.size+2:=by show ((w.heap.push _).push _).size=_;simp
 have hb:Bel w.heap.size w w2:=Bel.of (((Go.RowKit.Below.refl _ _).alloc (Ye _) _).alloc (by show w.heap.size≤(w.heap.push _).size;simp) _) (Ye _)
 have hI2:=hI.more hb
 have m1:∀ b∈r1.R++r1.W,D b:=fun b hb=>by
  rcases Yaf.1 hb with h|h
  ·exact hD b (Yp _ (Yp _ h))
  ·exact hD b (Yt _ (Yp _ h))
 have k1:=c1 p1 g base D w2 arr hgl hI2 hsz hcp m1
 refine .inl ⟨zz1 _ w,zje w fid arr (R1:=fun v w'=>∃ g',VRel g' r1.v v∧Post g g' base H r1.h D r1.W w2 w') (k1.mono ?_) ?_⟩
 ·rintro e w' ⟨g',vc,rfl,hv1,hp1⟩
  exact⟨vc,rfl,g',hv1,hp1⟩
 rintro v w' ⟨g',hv1,hp1⟩
 have m2:∀ b∈r2.R++r2.W,D b∨H.next≤b:=fun b hb=>by
  by_cases hlt:b<H.next
  ·left;rcases Yaf.1 hb with h|h
   ·exact hD b (Yp _ (Yt _ (Yaq.2 ⟨h,by simpa using hlt⟩)))
   ·exact hD b (Yt _ (Yt _ (Yaq.2 ⟨h,by simpa using hlt⟩)))
  ·exact .inr (Y6 hlt)
 have k2:=c2 p2 g' base (fun b=>D b∨H.next≤b) w' #[v] (hgl.mono hp1.le.2) hp1.inv rfl (fun i x hx=>by
  match i,hx with
  |0,hx=>cases hx;exact⟨v,rfl,hv1⟩) m2
 refine(zeu can178 k2).mono ?_
 rintro e w3 ⟨g2,vc,rfl,hv2,hp2⟩
 rw [hv]at hv2
 obtain⟨sb,rfl,hsb⟩:=hv2.inv_str
 have tot:=Post.trans hI2 hp1 hp2
 have fr:∀ c,w.heap.size≤c→c<w2.heap.size→w3.heap[c]? =w2.heap[c]? :=fun c h1 h2=>tot.frame c h2 fun b _ T e=>by have:=(hI.dom b T e).2.2;omega
 have b1:w3.heap[w.heap.size]? =some (.cells #[.string .empty] 9 (0,0)):=by rw [fr _ (Ye _) (by omega)];show ((w.heap.push _).push _)[w.heap.size]? =_;rw [Yax (by simp)];simp
 have b2:w3.heap[w.heap.size+1]? =some (.cells #[.int .i64 0] 27 (0,0)):=by rw [fr _ (by omega) (by omega)];show ((w.heap.push _).push _)[w.heap.size+1]? =_;rw [Ycg,Yf (by simp)]
 refine⟨sb,rfl,b1,b2,g2,_,rfl,?_,Post.around hI hb tot rfl ⟨rfl,Ye _⟩ rfl ?_ ?_⟩
 ·refine VRel.mk_tup rfl fun i y hy=>?_
  match i,hy with
  |0,hy=>cases hy;exact⟨_,rfl,.str hsb⟩
  |1,hy=>cases hy;exact⟨_,rfl,.int _ _⟩
 ·show _≤(Array.push _ _).size
  simp [World.setCell]
 ·intro c hc ho
  exact zni w3 w.heap.size _ _ _ c hc (by omega) (by omega)
def spec1(rec:FuncId→List V→Hp→Option AR)(f:FuncId)(args:List V)(H:Hp):Option AR:=
 match Nat.beq f 146,args with
 |true,[.fn fid caps]=>
  match rec fid caps H with
  |some r1=>
   match rec 178 [r1.v] r1.h with
   |some r2=>
    match r2.v with
    | .str s=>some ⟨True,.tup [.str s,.int .i64 0],r2.h,r1.R++r2.R.filter (· <H.next),r1.W++r2.W.filter (· <H.next)⟩
    |_=>none
   |none=>none
  |none=>none
 |true,_=>none
 |false,_=>
  match Nat.beq f 247,args with
  |true,[x]=>some ⟨True,x,H,[],[]⟩
  |_,_=>none
theorem zpm(x:V)(H:Hp):HCall prog 247 [x] H ⟨True,x,H,[],[]⟩:=by
 refine⟨fun _=>Stat.refl H,fun _ g base D w vs hgl hI hvs hpw hD=>?_⟩;obtain⟨v,hv,rv⟩:=hpw 0 _ rfl;have hvs':vs=#[v]:=by
  apply YaE;intro i;match i with
  |0=>exact hv
  |i+1=>rw [YC (by simp at hvs;omega),YC (by simp)]
 subst hvs';refine .inr ⟨v,w,?_,g,v,rfl,rv,Post.refl hI rfl rfl (.refl _) rfl⟩;rw [run_callFunc_extern (fn:=Tryz.f247) func247 (by kernel_rfl) rfl rfl (e:=Go.Extern.AbiNoEscape.same) (by kernel_rfl),Lib.run_noEscape];rfl
theorem zac {E:ECfg}(h:E.spec=spec1):zhc prog E:=by
 intro rec hrec f args H r e;rw [h]at e;unfold spec1 at e;split at e
 ·rename_i fid caps hf;have hf':=Yad hf;subst hf';split at e;rotate_left;·cases e
  rename_i r1 h1;split at e;rotate_left;·cases e
  rename_i r2 h2;split at e
  ·rename_i s hs;cases e;exact⟨trivial,zwl (hrec _ _ _ _ h1) (hrec _ _ _ _ h2) hs⟩
  ·cases e
 ·cases e
 ·split at e
  ·rename_i x hf;have hf':=Yad hf;subst hf';cases e;exact⟨trivial,zpm x H⟩
  ·cases e
end Go.Proofs
