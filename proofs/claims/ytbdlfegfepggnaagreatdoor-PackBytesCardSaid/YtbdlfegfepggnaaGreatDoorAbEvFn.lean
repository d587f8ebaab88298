/- The machine of AbEv is sound: calls. -/
import Derived.Test.YtbdlfegfepggnaaGreatDoorAbEvCode
set_option linter.all false
set_option maxHeartbeats 16000000
set_option maxRecDepth 100000
noncomputable section
namespace Go.Ab
variable {P:Program}
structure Gr(C:Cfg)(H H':Hp):Prop where
 next:H.next≤H'.next
 frame:C.nx≤H.next→∀b,b<C.nx→b∉C.Wm→H'.get b=H.get b
 keys:(∀b x,H.get b=some x→b<H.next)→∀b x,H'.get b=some x→b<H'.next
def Gr.refl(C:Cfg)(H:Hp):Gr C H H:=⟨Yc _,fun _ _ _ _=>rfl,fun h=>h⟩
def Gr.trans {C:Cfg}{H H' H'':Hp}(p:Gr C H H')(q:Gr C H' H''):Gr C H H'':=
 ⟨Ys p.next q.next,fun hn b hb h=>(q.frame (Ys hn p.next) b hb h).trans (p.frame hn b hb h),fun h=>q.keys (p.keys h)⟩
def Gr.of {C:Cfg}{H H':Hp}{W:ZN}(s:Stat H H' W)(hw:wok C W=true):Gr C H H':=by
 refine⟨s.next,fun hn b hb h=>s.frame b (Yu hb hn) fun hm=>?_,s.keys⟩;have:=Yo.1 hw b hm;simp only[Yao,Yq,YbH]at this;rcases this with h1|h1
 ·omega
 exact h h1
def put_h(s:TS)(dst:Option Tmp)(v:V)(h:Hp):(s.put dst v h).h=h:=by cases dst<;>rfl
def zil {C:Cfg}(hΓ:zcz P C)(hΔ:∀f ags H r,C.Δ f ags H=some r→r.pre){ops:Array Oper}{d:Bool}:∀(os:List Oper)(i:Nat)(s:TS)(acc:List (Nat×Foot))(o':Out)(s':TS)(env:Env),eRun C P ops d os i s acc=some (o',s')→TE s.t env→(∀o∈os,∀d,o.dst=some d→d<4095)→Gr C s.h s'.h
 |[],i,s,acc,o',s',env,h,hT,hd=>by
  unfold eRun at h;cases d with
  |false=>cases h;exact Gr.refl _ _
  |true=>
   simp only[YaF]at h;cases hc:chk ops acc with
   |true=>rw[hc]at h;cases h;exact Gr.refl _ _
   |false=>rw[hc]at h;cases h
 |o::os,i,s,acc,o',s',env,h,hT,hd=>by
  unfold eRun at h;have hdo:=hd o Zs;have hds:∀o∈os,∀d,o.dst=some d→d<4095:=fun o ho=>hd o (YD _ ho);split at h
  ·rename_i hgv;have hS:=zg3 (P:=P) hΔ hT o.op s.h;have sem:=zcG (P:=P) hΓ ops o env s.h;split at h
   ·rename_i st v h1 f he;rw[he]at hS;obtain⟨pre,hs,hp⟩:=hS;rw[hs]at sem;have hst:=(sem hp).stat;cases hq:(o.guard.isNone|| !st)with
    |true=>
     rw[hq]at h;simp only[YaF]at h;cases hw:wok C f.W with
     |false=>rw[hw]at h;cases h
     |true=>rw[hw]at h;simp only[YaF]at h;obtain⟨hT',hh'⟩:=zdi hT hdo v h1;have ih:=zil hΓ hΔ os (i+1) (s.put o.dst v h1) _ o' s' _ h hT' hds;rw[hh']at ih;exact(Gr.of hst hw).trans ih
    |false=>rw[hq]at h;simp only[Yb2]at h;obtain⟨hT',hh'⟩:=zdi hT hdo (.opt true v) s.h;have ih:=zil hΓ hΔ os (i+1) (s.put o.dst (.opt true v) s.h) _ o' s' _ h hT' hds;rw[hh']at ih;exact ih
   ·cases d with
    |false=>cases h;exact Gr.refl _ _
    |true=>
     simp only[YaF]at h;cases hc:(ze1 ops i&&chk ops acc)with
     |false=>rw[hc]at h;cases h
     |true=>rw[hc]at h;cases h;exact Gr.refl _ _
   cases h
  ·obtain⟨hT',hh'⟩:=zdi hT hdo (zpU C P (evT s.t) o.op s.h).1 s.h;have ih:=zil hΓ hΔ os (i+1) _ _ o' s' _ h hT' hds;rw[hh']at ih;exact ih
  cases h
def zij {C:Cfg}{ops:Array Oper}{d:Bool}:∀(os:List Oper)(i:Nat)(s:TS)(acc:List (Nat×Foot))(o':Out)(s':TS),eRun C P ops d os i s acc=some (o',s')→(∃env,TE s.t env)→(∀o∈os,∀d,o.dst=some d→d<4095)→∃env,TE s'.t env
 |[],i,s,acc,o',s',h,hT,hd=>by
  unfold eRun at h;cases d with
  |false=>cases h;exact hT
  |true=>
   simp only[YaF]at h;cases hc:chk ops acc with
   |true=>rw[hc]at h;cases h;exact hT
   |false=>rw[hc]at h;cases h
 |o::os,i,s,acc,o',s',h,⟨env,hT⟩,hd=>by
  unfold eRun at h;have hdo:=hd o Zs;have hds:∀o∈os,∀d,o.dst=some d→d<4095:=fun o ho=>hd o (YD _ ho);split at h
  ·split at h
   ·rename_i st v h1 f he;cases hq:(o.guard.isNone|| !st)with
    |true=>
     rw[hq]at h;simp only[YaF]at h;cases hw:wok C f.W with
     |false=>rw[hw]at h;cases h
     |true=>rw[hw]at h;exact zij os (i+1) _ _ o' s' h ⟨_,(zdi hT hdo v h1).1⟩ hds
    |false=>rw[hq]at h;exact zij os (i+1) _ _ o' s' h ⟨_,(zdi hT hdo _ _).1⟩ hds
   ·cases d with
    |false=>cases h;exact⟨env,hT⟩
    |true=>
     simp only[YaF]at h;cases hc:(ze1 ops i&&chk ops acc)with
     |false=>rw[hc]at h;cases h
     |true=>rw[hc]at h;cases h;exact⟨env,hT⟩
   cases h
  ·exact zij os (i+1) _ _ o' s' h ⟨_,(zdi hT hdo _ _).1⟩ hds
  cases h
def Grw(C:Cfg)(s s':TS):Prop:=(∃env,TE s.t env)→Gr C s.h s'.h∧∃env,TE s'.t env
def Grw.refl(C:Cfg)(s:TS):Grw C s s:=fun h=>⟨Gr.refl _ _,h⟩
def Grw.trans {C:Cfg}{s s' s'':TS}(p:Grw C s s')(q:Grw C s' s''):Grw C s s'':=fun h=>
 let ⟨p1,p2⟩:=p h
 let ⟨q1,q2⟩:=q p2
 ⟨p1.trans q1,q2⟩
def GrwL(C:Cfg)(s:TS)(l:List (Out×TS)):Prop:=∀p∈l,Grw C s p.2
def GrwL.one {C:Cfg}{s:TS}{o:Out}{s':TS}(h:Grw C s s'):GrwL C s [(o,s')]:=fun p hp=>by simp only[YW]at hp;subst hp;exact h
def zg5 {C:Cfg}{f:TS→OL}{s:TS}(hf:∀s' l,f s'=some l→GrwL C s' l):∀ {l l':List (Out×TS)},zi9 f l=some l'→GrwL C s l→GrwL C s l'
 |[],l',h,_,p,hp=>by cases h;cases hp
 |(o,s1)::r,l',h,hg,p,hp=>by
  have hg1:=hg (o,s1) (YA ..);have hgr:GrwL C s r:=fun q hq=>hg q (YD _ hq);unfold zi9 at h;have other:∀ {o:Out},(match zi9 f r with|some l''=>some ((o,s1)::l'')|none=>none)=some l'→Grw C s p.2:=by
   intro o h;split at h
   ·rename_i l2 h2;cases h;rcases Yy.1 hp with rfl|hp
    ·exact hg1
    exact zg5 hf h2 hgr p hp
   cases h
  cases o with
  |norm=>
   cases r with
   |nil=>exact hg1.trans (hf s1 l' h p hp)
   |cons p2 r2=>
    simp only at h;split at h
    ·rename_i l1 h1;split at h
     ·rename_i l2 h2;cases h;rcases Yar.1 hp with hp|hp
      ·exact hg1.trans (hf s1 l1 h1 p hp)
      exact zg5 hf h2 hgr p hp
     cases h
    cases h
  |exit i=>exact other h
  |ret=>exact other h
  |panic v=>exact other h
def zyX {C:Cfg}{id:Nat}{s:TS}:∀ {l:List (Out×TS)},GrwL C s l→GrwL C s (endB id l)
 |[],_,p,hp=>by cases hp
 |q::r,h,p,hp=>by
  have hq:=h q (YA ..);rcases Yy.1 (show p∈_::endB id r from hp)with rfl|hp
  ·obtain⟨o,s1⟩:=q;cases o with
   |exit i=>simp only;cases Nat.beq i id<;>exact hq
   |norm=>exact hq
   |ret=>exact hq
   |panic v=>exact hq
  exact zyX (fun q hq=>h q (YD _ hq)) p hp
def zrS {C:Cfg}{f:TS→OL}(hf:∀s l,f s=some l→GrwL C s l):∀(n:Nat)(s:TS)(l:List (Out×TS)),zuT f n s=some l→GrwL C s l
 |0,s,l,h=>by cases h
 |n+1,s,l,h=>by
  unfold zuT at h;cases hr:f s with
  |none=>rw[hr]at h;cases h
  |some l1=>rw[hr]at h;exact zg5 (zrS hf n) h (hf s l1 hr)
def zsH {x:V}{H:Hp}{l:List XR}(h:zj8 x H=some l):∀q∈l,Stat H q.h q.W:=by
 intro q hq;unfold zj8 at h;split at h;rotate_left;·cases h
 split at h
 ·cases h;simp only[YW]at hq;subst hq;exact Stat.kill (by assumption)
 ·split at h;rotate_left;·cases h
  split at h;rotate_left;·cases h
  split at h
  ·cases h;simp only[YW]at hq;subst hq;exact Stat.kill (by assumption)
  cases h;obtain⟨e,_,rfl⟩:=Yab.1 hq;exact Stat.put (by assumption)
 cases h
def znA {C:Cfg}{ops:Array Oper}{o:Oper}{os:List Oper}{s:TS}:∀ {qs:List XR} {l:List (Out×TS)},zuU C P ops o os s qs=some l→∀p∈l,∃q∈qs,wok C q.W=true∧eRun C P ops false os 1 (s.put o.dst q.v q.h) []=some p
 |[],l,h,p,hp=>by cases h;cases hp
 |q::r,l,h,p,hp=>by
  unfold zuU at h;cases hw:wok C q.W with
  |false=>rw[hw]at h;cases h
  |true=>
   rw[hw]at h;simp only[YaF]at h;split at h
   ·rename_i p1 hp1;split at h
    ·rename_i l2 h2;cases h;rcases Yy.1 hp with rfl|hp
     ·exact⟨q,YA ..,hw,hp1⟩
     obtain⟨q',k1,k2,k3⟩:=znA h2 p hp;exact⟨q',YD _ k1,k2,k3⟩
    cases h
   cases h
def znx {C:Cfg}(hΓ:zcz P C)(hΔ:∀f ags H r,C.Δ f ags H=some r→r.pre){ops:Array Oper}:∀(os:List Oper)(s:TS)(l:List TP)(e:TS)(env:Env),zgB C P os s=some (l,e)→TE s.t env→(∀o∈os,∀d,o.dst=some d→d<4095)→Gr C s.h e.h∧∃env',TE e.t env'
 |[],s,l,e,env,h,hT,_=>by unfold zgB at h;cases h;exact⟨Gr.refl _ _,_,hT⟩
 |o::os,s,l,e,env,h,hT,hd=>by
  unfold zgB at h;split at h
  ·cases h
  split at h;rotate_left;·cases h
  rename_i st v h' f he;have hS:=zg3 (P:=P) hΔ hT o.op s.h;have sem:=zcG (P:=P) hΓ ops o env s.h;rw[he]at hS;obtain⟨pre,hs,hp⟩:=hS;rw[hs]at sem;have hst:=(sem hp).stat;cases hw:wok C f.W with
  |false=>rw[hw]at h;cases h
  |true=>
   rw[hw]at h;simp only[YaF]at h;split at h;rotate_left;·cases h
   rename_i l' e' hr;cases h;obtain⟨hT',hh'⟩:=zdi hT (hd o Zs) v h';obtain⟨g1,g2⟩:=znx hΓ hΔ (ops:=ops) os _ l' e _ hr hT' fun o ho=>hd o (YD _ ho);rw[hh']at g1;exact⟨(Gr.of hst hw).trans g1,g2⟩
def zuS {C:Cfg}(hΓ:zcz P C)(hΔ:∀f ags H r,C.Δ f ags H=some r→r.pre)(hnt:C.nt≤4000){id:Nat}{ops:Array Oper}{d:Bool}{s:TS}{l:List (Out×TS)} (hc:zas C.nt (.region id ops d)=true) (h:zim C P ops d s=some l):GrwL C s l:=by
 simp only[zas,Yg]at hc;have hd:∀o∈ops.toList,∀d,o.dst=some d→d<4095:=fun o ho d e=>Yu (zbC hc.1 o ho d e) (Ys hnt Zd);have plain:single (eRun C P ops d ops.toList 0 s [])=some l→GrwL C s l:=by
  intro h;cases hr:eRun C P ops d ops.toList 0 s []with
  |none=>rw[hr]at h;cases h
  |some p=>obtain⟨o',s'⟩:=p;rw[hr]at h;cases h;refine GrwL.one ?_;rintro⟨env,hT⟩;exact⟨zil hΓ hΔ _ _ _ _ _ _ env hr hT hd,zij _ _ _ _ _ _ hr ⟨env,hT⟩ hd⟩
 unfold zim at h;split at h
 ·rename_i o os ho;split at h
  ·rename_i it hop hg;split at h;rotate_left;·cases h
   rename_i v hv;split at h;rotate_left;·cases h
   rename_i qs hqs;intro p hp;obtain⟨q,hq,hw,hrun⟩:=znA h p hp;rintro⟨env,hT⟩;obtain⟨hT',hh'⟩:=zdi hT (hd o (by rw[ho];exact YA ..)) q.v q.h;have hds:∀o'∈os,∀d,o'.dst=some d→d<4095:=fun o' ho'=>hd o' (by rw[ho];exact YD _ ho');have g1:=zil hΓ hΔ os 1 (s.put o.dst q.v q.h) [] p.1 p.2 _ hrun hT' hds;rw[hh']at g1;exact⟨(Gr.of (zsH hqs q hq) hw).trans g1,zij os 1 _ [] p.1 p.2 hrun ⟨_,hT'⟩ hds⟩
  rw[←ho]at h;exact plain h
 ·exact plain h
 split at h
 ·rename_i p hp;exact plain (by rw[hp];exact h)
 unfold eLate at h;split at h;rotate_left;·cases h
 rename_i tr e htr;cases hc2:((List.range tr.length).all fun i=>(List.range tr.length).all fun j=> !decide (i<j)||zrD P ops (masks ops) tr i j)with
 |false=>rw[hc2]at h;cases h
 |true=>
 rw[hc2]at h;cases h;refine GrwL.one ?_;rintro⟨env,hT⟩;exact znx hΓ hΔ (ops:=ops) _ _ _ _ env htr hT hd
def zdO {C:Cfg}{N:Nat}(hΓ:zcz P C)(hΔ:∀f ags H r,C.Δ f ags H=some r→r.pre)(hnt:C.nt≤4000):∀(c:Code)(s:TS)(l:List (Out×TS)),zas C.nt c=true→zdr C P N c s=some l→GrwL C s l
 | .skip,s,l,_,h=>by cases h;exact GrwL.one (Grw.refl _ _)
 | .ret,s,l,_,h=>by cases h;exact GrwL.one (Grw.refl _ _)
 | .exit id,s,l,_,h=>by cases h;exact GrwL.one (Grw.refl _ _)
 | .seq x y,s,l,hc,h=>by
  simp only[zas,Yg]at hc;unfold zdr at h;cases hr:zdr C P N x s with
  |none=>rw[hr]at h;cases h
  |some l1=>rw[hr]at h;exact zg5 (fun s' l h=>zdO hΓ hΔ hnt y s' l hc.2 h) h (zdO hΓ hΔ hnt x s l1 hc.1 hr)
 | .block id x,s,l,hc,h=>by
  unfold zdr at h;cases hr:zdr C P N x s with
  |none=>rw[hr]at h;cases h
  |some l1=>rw[hr]at h;cases h;exact zyX (zdO hΓ hΔ hnt x s l1 hc hr)
 | .cond c x y,s,l,hc,h=>by
  simp only[zas,Yg]at hc;unfold zdr at h;split at h
  ·rename_i b hb;cases b with
   |true=>exact zdO hΓ hΔ hnt x s l hc.1 h
   |false=>exact zdO hΓ hΔ hnt y s l hc.2 h
  cases h
 | .region id ops d,s,l,hc,h=>zuS hΓ hΔ hnt hc h
 | .loop x,s,l,hc,h=>zrS (fun s l h=>zdO hΓ hΔ hnt x s l hc h) N s l h
 | .rangeFunc ..,_,_,_,h=>by cases h
 | .scope _,_,_,_,h=>by cases h
 | .label _,_,_,_,h=>by cases h
 | .goto _,_,_,_,h=>by cases h
 | .refuse _,_,_,_,h=>by cases h
def zom:∀(i:Nat)(t:Tr)(l:ZA)(k:Nat),i+l.length≤4095→(zvz i t l).get k=if i≤k∧k<i+l.length then l[k-i]? else t.get k
 |i,t,[],k,h=>by rw[Yh (by simp only[YY];omega)];rfl
 |i,t,a::r,k,h=>by
  simp only[Yn]at h ⊢;show (zvz (i+1) (t.set a i) r).get k=_;rw[zom (i+1) _ r k Zo,zls a t i k Zo];by_cases hk:k=i
  ·subst hk;rw[Yh Zo,Yi rfl,Yi Zo];simp
  by_cases hi:i+1≤k∧k<i+1+r.length
  ·rw[Yi hi,Yi Zo,show k-i=(k-(i+1))+1 by omega];simp
  rw[Yh hi,Yh hk,Yh Zo]
def zjZ:∀(i:Nat)(l:ZA)(k:Nat),(zbY i l).lookup k=if i≤k∧k<i+l.length then l[k-i]? else none
 |i,[],k=>by rw[Yh (by simp only[YY];omega)];rfl
 |i,a::r,k=>by
  simp only[Yn];rw[zbY,YC,zjZ (i+1) r k];by_cases hk:k=i
  ·subst hk;simp
  have hb:(k==i)=false:=by simp[hk]
  rw[hb];by_cases hi:i+1≤k∧k<i+1+r.length
  ·rw[Yi hi,Yi Zo,show k-i=(k-(i+1))+1 by omega];simp
  rw[Yh hi,Yh Zo]
def argTE {l:ZA}(h:l.length≤4000):TE (zvz 0 .nil l) (zbY 0 l):=fun k=>by rw[zom 0 .nil l k Zo,zjZ];rfl
def zlu {s:TS}{env:Env}(hT:TE s.t env):∀(rs:List ResultVar)(l:ZA),eRes P s rs=some l→(resL P ⟨env,s.h⟩ rs).1∧(resL P ⟨env,s.h⟩ rs).2=l
 |[],l,h=>by cases h;exact⟨trivial,rfl⟩
 | .tmp t::r,l,h=>by
  unfold eRes at h;split at h
  ·rename_i l1 h1;cases h;obtain⟨h2,h3⟩:=zlu hT r l1 h1;refine⟨h2,?_⟩;show ((env.lookup t).getD .any::(resL P ⟨env,s.h⟩ r).2)=_;rw[h3,←hT t]
  cases h
 | .cell c t::r,l,h=>by
  unfold eRes at h;cases hp:zxt P t ((s.t.get c).getD .any) s.h with
  |false=>rw[hp]at h;cases h
  |true=>
   rw[hp]at h;simp only[YaF]at h;split at h
   ·rename_i l1 h1;cases h;obtain⟨h2,h3⟩:=zlu hT r l1 h1;have hl:=zrh hp;refine⟨⟨?_,h2⟩,?_⟩
    ·show (zcr P t ((env.lookup c).getD .any) s.h).pre;rw[←hT c];exact hl
    show ((zcr P t ((env.lookup c).getD .any) s.h).v::(resL P ⟨env,s.h⟩ r).2)=_;rw[h3,←hT c]
   cases h
def mem_keysOf {l:ZH}{b:Nat}:b∈keysOf l↔∃x,l.lookup b=some x:=by
 induction l with
 |nil=>simp[keysOf]
 |cons p r ih=>
  obtain⟨k,y⟩:=p;rw[YC];by_cases hb:b=k
  ·subst hb;simp[keysOf]
  have:(b==k)=false:=by simp[hb]
  rw[this];simp only;rw[←ih];simp[keysOf,hb]
def zh2 {n:Nat}{K:ZN}{h:Hp}{b:Nat}:(zcK n K h).get b=if (Nat.blt b n||K.contains b)=true then h.get b else none:=
 zbN (fun b=>Nat.blt b n||K.contains b) b h.bs
def zfM {n:Nat}{K:ZN}{h:Hp}{b:Nat}{x:Blk}(e:(zcK n K h).get b=some x):h.get b=some x:=by
 rw[zh2]at e;split at e
 ·exact e
 cases e
def zjP {n:Nat}{K:ZN}{h:Hp}{b:Nat}(hb:b<n):(zcK n K h).get b=h.get b:=by rw[zh2,Yi (by simp[hb])]
def zjo {H:Hp}:∀(n:Nat) {l:ZN} {b:Nat},b∈reach H n l→∃x,H.get b=some x
 |0,l,b,h=>by have:=(YaL.1 h).2;exact Ya3.1 this
 |n+1,l,b,h=>zjo n h
def zvX {n:Nat}{args:ZA}{H:Hp}{b:Nat}(h:b∈wrOf n args H):∃x,H.get b=some x:=by
 cases n with
 |zero=>cases h
 |succ n=>exact zjo n h
def zmZ(a b:Hp):a.next≤(zrk a b).next∧b.next≤(zrk a b).next:=by
 unfold zrk;cases hq:Nat.ble a.next b.next with
 |true=>exact⟨YbI hq,Yc _⟩
 |false=>
  refine⟨Yc _,?_⟩;have:¬a.next≤b.next:=fun h=>by rw[Nat.ble_eq_true_of_le h]at hq;cases hq
  show b.next≤a.next;omega
def zny {f:Out×TS→Option AR}:∀ {l:List (Out×TS)} {r:AR},eOuts f l=some r→(∃p∈l,∃a,f p=some a∧r=⟨a.pre,a.v,r.h,a.R,a.W⟩)∧∀p∈l,∃a,f p=some a∧a.v=r.v∧a.h.bs=r.h.bs∧a.h.next≤r.h.next
 |[],r,h=>by cases h
 |p::q,r,h=>by
  unfold eOuts at h;cases q with
  |nil=>refine⟨⟨p,YA ..,r,h,rfl⟩,fun p' hp=>?_⟩;simp only[YW]at hp;subst hp;exact⟨r,h,rfl,rfl,Yc _⟩
  |cons p2 r2=>
   simp only at h;split at h;rotate_left;·cases h
   rename_i a ha;split at h;rotate_left;·cases h
   rename_i b hb;obtain⟨⟨p3,h3,a3,h4,h6⟩,h5⟩:=zny hb;cases hq:(beqV a.v b.v&&zqo a.h.bs b.h.bs)with
   |false=>rw[hq]at h;cases h
   |true=>
    rw[hq]at h;cases h;simp only[Yg]at hq;refine⟨⟨p3,YD _ h3,a3,h4,by rw[h6]⟩,fun p' hp=>?_⟩;rcases Yy.1 hp with rfl|hp
    ·exact⟨a,ha,zlV hq.1,zsw hq.2,(zmZ _ _).1⟩
    obtain⟨a',e1,e2,e3,e4⟩:=h5 p' hp;exact⟨a',e1,e2,e3,Ys e4 (zmZ _ _).2⟩
def zl6(P:Program)(E:ECfg):Prop:=∀rec,(∀f args H r,rec f args H=some r→r.pre∧HCall P f args H r)→∀f args H r,E.spec rec f args H=some r→r.pre∧HCall P f args H r
def eBody_ok {E:ECfg}(hm:P.follows .mixedOrders=true)(hΓ:∀f args r,E.Γ f args=some r→PCall P f args r){rec:FuncId→ZA→Hp→Option AR} (ihn:∀f args H r,rec f args H=some r→r.pre∧HCall P f args H r) (f:FuncId) (hcan:zk P f) (args:ZA) (H:Hp) (r:AR) (h:eBody E P rec f args H=some r):r.pre∧HCall P f args H r:=by
 unfold eBody at h;split at h;rotate_left;·cases h
 rename_i fn hfn;split at h;rotate_left;·cases h
 rename_i c hbody;cases hck:(zas fn.ntmps c&&Nat.ble args.length fn.ntmps&&Nat.ble fn.ntmps 4000)with
 |false=>rw[hck]at h;cases h
 |true=>
 rw[hck]at h;simp only[YaF]at h;simp only[Yg,Ybw]at hck;obtain⟨⟨hcode,hargs⟩,hnt⟩:=hck;generalize hW:wrOf (E.wr f) args H=W at h;have hWk:∀b∈W,b∈keysOf H.bs:=by intro b hb;rw[←hW]at hb;obtain⟨x,hx⟩:=zvX hb;exact mem_keysOf.2 ⟨x,hx⟩
 let C:Cfg:=⟨fn.ntmps,fun _=>true,E.Γ,rec,H.next,W,E.fz,[]⟩
 have hG:zcz P C:=⟨hΓ,fun f args H r e=>(ihn f args H r e).2⟩;have hD:∀f ags H r,C.Δ f ags H=some r→r.pre:=fun f ags H r e=>(ihn f ags H r e).1;split at h;rotate_left;·cases h
 rename_i l hrun;have hTE:TE (zvz 0 .nil args) (zbY 0 args):=argTE Zo;obtain⟨⟨p0,hp0,a0,hfp0,hra⟩,hall⟩:=zny h;have outs:∀ {o:Out} {s:TS} {a:AR},eOut P fn W H (o,s)=some a→(o=.norm∨o=.ret)∧∃l,eRes P s fn.results.toList=some l∧a=⟨True,tupV l,zcK H.next (close s.h 100000 (zeY W l s.h) []) s.h,keysOf H.bs,W⟩:=by
  intro o s a ha;unfold eOut at ha;simp only at ha;split at ha
  ·split at ha
   ·rename_i l hl;cases ha;exact⟨.inl rfl,l,hl,rfl⟩
   cases ha
  ·split at ha
   ·rename_i l hl;cases ha;exact⟨.inr rfl,l,hl,rfl⟩
   cases ha
  cases ha
 have main:∀ {o:Out} {s:TS},(o,s)∈l→(o=.norm∨o=.ret)∧∃l,eRes P s fn.results.toList=some l∧r=⟨True,tupV l,⟨(zcK H.next (close s.h 100000 (zeY W l s.h) []) s.h).bs,r.h.next⟩,keysOf H.bs,W⟩∧s.h.next≤r.h.next:=by intro o s hp;obtain⟨a,ha,hav,hah,hle⟩:=hall _ hp;obtain⟨ho,lv,hl,rfl⟩:=outs ha;obtain⟨_,lv0,hl0,hr0⟩:=outs (o:=p0.1) (s:=p0.2) hfp0;refine⟨ho,lv,hl,?_,hle⟩;subst hr0;simp only at hav hah;have hv0:r.v=tupV lv0:=YaZ AR.v hra;rw[hav,hah,hv0];exact hra
 have hgrs:=zdO (C:=C) hG hD hnt c _ _ hcode hrun;obtain⟨o0,s0⟩:=p0;obtain⟨hgr,envE,hTE'⟩:=hgrs _ hp0 ⟨_,hTE⟩;obtain⟨_,l0,hl0,hr0,hle0⟩:=main hp0;generalize hN:r.h.next=N at hr0 hle0;have hfr:∀b,b<H.next→b∉W→s0.h.get b=H.get b:=fun b hb hw=>hgr.frame (Yc _) b hb hw;have live:∀b∈keysOf H.bs,∃x,H.get b=some x:=fun b hb=>mem_keysOf.1 hb;refine⟨by rw[hr0];trivial,fun _=>?_,?_⟩
 ·rw[hr0];exact⟨Ys hgr.next hle0,fun b hb hw=>by show (zcK H.next (close s0.h 100000 (zeY W l0 s0.h) []) s0.h).get b=_;rw[zjP hb];exact hfr b hb hw,fun b hb=>live b (hWk b hb),fun hk b x e=>Yu (hgr.keys hk b x (zfM e)) hle0⟩
 intro _ g base D w vs hgl hI hvs hpw hDD;refine .inl ⟨hcan vs w,calls_of_wp hfn hbody ?_⟩;rw[hr0]at hDD;have hDk:∀b x,H.get b=some x→D b:=fun b x e=>hDD b (YG _ (mem_keysOf.2 ⟨x,e⟩));have hinv:Inv g base H (fun _=>True) w:=
  ⟨hI.frz,hI.dom,hI.keys,fun b x _ e=>hI.cont b x (hDk b x e) e,fun b b' x x' T T' _ _ e e'=>hI.inj b b' x x' T T' (hDk b x e) (hDk b' x' e') e e',hI.base⟩
 have he:Entry C base (fun _=>True) g H w:=⟨hinv,rfl,fun _ _=>trivial⟩;have hpost:Post g g base H H (fun _=>True) C.Wm w w:=(Post.refl hinv rfl rfl ⟨rfl,Yc _⟩ rfl).weaken (fun _ h=>by cases h);have hr:Rel C base (fun _=>True) g H w g ⟨zbY 0 args,H⟩ { tmps:=vs++Array.replicate (fn.ntmps-vs.size) undef,defers:=[] } w:=by
  refine⟨⟨hgl,by simp[C];omega,fun t v e=>?_⟩,rfl,hpost⟩;obtain⟨_,h1⟩:=zcx 0 args t v e;have hlt:=(Yt.1 h1).1;obtain⟨u,hu,ru⟩:=hpw _ _ h1;have hu':vs[t]? =some u:=hu;have:(vs++Array.replicate (fn.ntmps-vs.size) undef).getD t undef=u:=by rw[Y2,YaV (by simp at hlt;omega),hu'];rfl
  rw[this];exact ru
 have hax:=zcX (C:=C) (K:=fun o' s'=>∃p∈l,o'=p.1∧TE p.2.t s'.env∧s'.h=p.2.h) hm hG rfl hD hnt c _ _ _ hcode hrun hTE (fun p hp env h=>⟨p,hp,rfl,h,rfl⟩);refine wp_mono (hax base _ g _ w g _ w he hr) fun e a w' ⟨o1,s1,g1,h1,h2,h3⟩=>?_;obtain⟨⟨o,s⟩,hpl,rfl,hte,hh⟩:=h1;obtain⟨env1,hh1⟩:=s1;obtain rfl:hh1=s.h:=hh;obtain⟨ho,l,hl,hr9,hle⟩:=main hpl;rw[hN]at hr9 hle;subst hr9;obtain⟨hrp,hrv⟩:=zlu hte fn.results.toList l hl;obtain⟨vc,hrunr,hv⟩:=zeF (P:=P) (w:=w') h3.post.inv (fun b=>.inl trivial) hrp h3.env;have hv':VRel g1 (tupV l) vc:=by
  have e:resV P fn ⟨env1,s.h⟩=tupV l:=by unfold resV;rw[hrv]
  rw[←e];exact hv
 have p:=h3.post;have hinv':Inv g1 base ⟨(zcK H.next (close s.h 100000 (zeY W l s.h) []) s.h).bs,N⟩ (fun b=>D b∨H.next≤b) w':=
  ⟨p.inv.frz,fun b T e=>⟨Yu (p.inv.dom b T e).1 hle,(p.inv.dom b T e).2⟩,fun b x e=>Yu (p.inv.keys b x (zfM e)) hle,fun b x _ e=>p.inv.cont b x (.inl trivial) (zfM e),
   fun b b' x x' T T' _ _ e e'=>p.inv.inj b b' x x' T T' (.inl trivial) (.inl trivial) (zfM e) (zfM e'),p.inv.base⟩
 have hp':Post g g1 base H ⟨(zcK H.next (close s.h 100000 (zeY W l s.h) []) s.h).bs,N⟩ D W w w':=
  ⟨p.le,hinv',p.newmu,p.newphi,p.frame,p.size,p.os,p.tape,p.output,fun b hb hw=>by show (zcK H.next _ s.h).get b=_;rw[zjP hb];exact p.aframe b hb hw,Ys p.anext hle⟩
 have fin:a.defers=[]∧∃v,(results fn a.tmps).run P w'=.ok v w'∧∃g' vc,Ending.returned v=.returned vc∧VRel g' (tupV l) vc∧Post g g' base H ⟨(zcK H.next (close s.h 100000 (zeY W l s.h) []) s.h).bs,N⟩ D W w w':=
  ⟨h3.defers,vc,hrunr,g1,vc,rfl,hv',hp'⟩
 rcases ho with rfl|rfl<;>cases e<;>first|exact h2.elim|exact fin
def zwM {L:ZN}{H:Hp}(b:Nat):(restr L H).get b=if L.contains b=true then H.get b else none:=zbN (fun b=>L.contains b) b H.bs
def joinR_ok {f:FuncId}{args:ZA}{L:ZN}{H:Hp}{r:AR}(h:HCall P f args (restr L H) r):HCall P f args H (joinR L H r):=by
 refine HCall.frame (H1:=restr L H) (q:=fun b=>L.contains b) (join:=⟨r.h.bs++zwN L H,r.h.next⟩) rfl zwM (fun b=>?_) rfl h;show (r.h.bs++zwN L H).lookup b=_;rw[zjA];have e0:r.h.get b=r.h.bs.lookup b:=rfl;cases hr:r.h.bs.lookup b with
 |some x=>rw[e0,hr]
 |none=>
  rw[e0,hr];show (H.bs.filter fun p=> !L.contains p.1).lookup b=_;rw[zbN (fun b=> !L.contains b) b H.bs];cases hq:L.contains b with
  |true=>simp
  |false=>simp;rfl
def zy1 {E:ECfg}(hm:P.follows .mixedOrders=true)(hΓ:∀f args r,E.Γ f args=some r→PCall P f args r)(hcan:∀f,E.can f=true→zk P f)(hsp:zl6 P E):∀(n:Nat)(f:FuncId)(args:ZA)(H:Hp)(r:AR),eFn E P n f args H=some r→r.pre∧HCall P f args H r
 |0,f,args,H,r,h=>by cases h
 |n+1,f,args,H,r,h=>by
  unfold eFn at h;have ihn:=zy1 hm hΓ hcan hsp n;split at h
  ·rename_i r' hr';cases h;exact hsp _ ihn f args H r hr'
  cases hcf:E.can f with
  |false=>rw[hcf]at h;cases h
  |true=>
   rw[hcf]at h;simp only[YaF]at h;split at h
   ·rename_i r1 h1;cases h;obtain⟨p,q⟩:=eBody_ok hm hΓ ihn f (hcan f hcf) args _ r1 h1;exact⟨p,joinR_ok q⟩
   cases h
end Go.Ab
