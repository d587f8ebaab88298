/- The machine of AbEv is sound: regions, code, calls. -/
import Derived.Test.YtbdlfegfepggnaaGreatDoorAbEvOk
set_option linter.all false
set_option maxHeartbeats 16000000
set_option maxRecDepth 100000
noncomputable section
namespace Go.Ab
variable {P:Program}
def zoS(C:Cfg)(fid:FuncId)(ags:ZA)(nd:Prop)(H:Hp):
 zeB C fid ags H=(match zcw C fid ags nd H with| .ok true _ v _ f=>(.opt false v,⟨f.R,[],0,0⟩)|_=>(undefV,⟨[],[],0,0⟩)):=by
 unfold zeB zcw
 cases hl:(zcq ags).isEmpty with
 |true=>
  simp only[YaF,if_true]
  cases hg:C.Γ fid (ags.map nz)with
  |some r=>cases r<;>rfl
  |none=>
   simp only
   cases C.Δ fid ags H<;>rfl
 |false=>
  simp only[Yb2,YS,if_false]
  cases hg:C.Γ fid (ags.map (lend H))with
  |none=>
   simp only
   cases C.Δ fid ags H<;>rfl
  |some r=>
   simp only
   cases C.Δ fid ags H with
   |some d=>rfl
   |none=>cases r<;>rfl
def eSkip_eq(C:Cfg)(env:Env)(op:Op)(H:Hp):
 zpU C P (ev env) op H=(match step1 C P env op H with| .ok true _ v _ f=>(.opt false v,⟨f.R,[],0,0⟩)|_=>(undefV,⟨[],[],0,0⟩)):=by
 cases op
 case call c=>
  obtain⟨callee,args,argTypes⟩:=c
  cases callee
  case value f=>
   show (match (ev env f).val with
    | .fn fid caps=>zeB C fid (args.toList.map (rho env)++caps) H
    | .bnd fid fs=>zeB C fid (fs++args.toList.map (rho env)) H
    |_=>(undefV,⟨[],[],0,0⟩))=(match (match (ev env f).val with
    | .fn fid caps=>zcw C fid (args.toList.map (rho env)++caps) ((ev env f).cond∧needs (args.toList.map (ev env))) H
    | .bnd fid fs=>zcw C fid (fs++args.toList.map (rho env)) ((ev env f).cond∧needs (args.toList.map (ev env))) H
    |_=>.bad)with| .ok true _ v _ f=>(.opt false v,⟨f.R,[],0,0⟩)|_=>(undefV,⟨[],[],0,0⟩))
   cases (ev env f).val<;>first|rfl|exact zoS ..
  all_goals rfl
 all_goals rfl
def eGval_ok {ops:Array Oper}{t:Tr}{env:Env}(hT:TE t env)(o:Oper):eGval ops t o=gval ops env o:=by
 unfold eGval gval;cases hgd:o.guard with
 |none=>rfl
 |some jw=>
  obtain⟨j,want⟩:=jw;simp only;cases hb:(ops[j]?).bind (·.dst)with
  |none=>rfl
  |some d=>simp only;rw[hT d];rfl
def KT(K:Out→St→Prop)(o:Out)(s:TS):Prop:=∀env,TE s.t env→K o ⟨env,s.h⟩
def zdi {s:TS}{env:Env}(hT:TE s.t env){dst:Option Tmp}(hd:∀d,dst=some d→d<4095)(v:V)(h:Hp):TE (s.put dst v h).t (((⟨env,s.h⟩:St).put dst v).hp h).env∧(s.put dst v h).h=h:=by
 cases dst with
 |none=>exact⟨hT,rfl⟩
 |some d=>exact⟨hT.put v (hd d rfl),rfl⟩
def zik {C:Cfg}(hΔ:∀f ags H r,C.Δ f ags H=some r→r.pre){ops:Array Oper}{d:Bool}{K:Out→St→Prop}:∀(os:List Oper)(i:Nat)(s:TS)(acc:List (Nat×Foot))(o':Out)(s':TS)(env:Env),eRun C P ops d os i s acc=some (o',s')→TE s.t env→(∀o∈os,∀d,o.dst=some d→d<4095)→KT K o' s'→(d=false→ARun C P ops os ⟨env,s.h⟩ K)∧(d=true→DRun C P ops os i ⟨env,s.h⟩ acc K)
 |[],i,s,acc,o',s',env,h,hT,hd,hK=>by
  unfold eRun at h;cases d with
  |false=>cases h;exact⟨fun _=>hK env hT,fun e=>by cases e⟩
  |true=>
   simp only[YaF]at h;cases hc:chk ops acc with
   |true=>rw[hc]at h;cases h;exact⟨fun e=>(by cases e),fun _=>⟨hc,hK env hT⟩⟩
   |false=>rw[hc]at h;cases h
 |o::os,i,s,acc,o',s',env,h,hT,hd,hK=>by
  unfold eRun at h;have hg:=eGval_ok (ops:=ops) hT o;have hdo:=hd o Zs;have hds:∀o∈os,∀d,o.dst=some d→d<4095:=fun o ho=>hd o (YD _ ho);split at h
  ·rename_i hgv;rw[hgv]at hg;have hS:=zg3 (P:=P) hΔ hT o.op s.h;split at h
   ·rename_i st v h1 f he;rw[he]at hS;obtain⟨pre,hs,hp⟩:=hS;cases hq:(o.guard.isNone|| !st)with
    |true=>
     rw[hq]at h;simp only[YaF]at h;cases hw:wok C f.W with
     |false=>rw[hw]at h;cases h
     |true=>
      rw[hw]at h;simp only[YaF]at h;obtain⟨hT',hh'⟩:=zdi hT hdo v h1;obtain⟨ih1,ih2⟩:=zik hΔ os (i+1) (s.put o.dst v h1) (bif d then accF acc i f else acc) o' s' _ h hT' hds hK;rw[hh']at ih1 ih2;have e1:(⟨(((⟨env,s.h⟩:St).put o.dst v).hp h1).env,h1⟩:St)=((⟨env,s.h⟩:St).put o.dst v).hp h1:=rfl;rw[e1]at ih1 ih2;refine⟨fun e=>?_,fun e=>?_⟩
      ·unfold ARun;simp only[hs];cases hgd:o.guard with
       |none=>exact⟨hp,hw,ih1 e⟩
       |some jw=>
        simp only;rw[←hg];have hst:st=false:=by rw[hgd]at hq;simpa using hq
        subst hst;exact⟨hp,hw,ih1 e⟩
      unfold DRun;simp only[hs];subst e;cases hgd:o.guard with
      |none=>exact⟨hp,hw,ih2 rfl⟩
      |some jw=>
       simp only;rw[←hg];have hst:st=false:=by rw[hgd]at hq;simpa using hq
       subst hst;exact⟨hp,hw,ih2 rfl⟩
    |false=>
     rw[hq]at h;simp only[Yb2]at h;obtain⟨hT',hh'⟩:=zdi hT hdo (.opt true v) s.h;obtain⟨ih1,ih2⟩:=zik hΔ os (i+1) (s.put o.dst (.opt true v) s.h) (bif d then accF acc i ⟨f.R,[],0,0⟩else acc) o' s' _ h hT' hds hK;rw[hh']at ih1 ih2;have e1:(⟨(((⟨env,s.h⟩:St).put o.dst (.opt true v)).hp s.h).env,s.h⟩:St)=((⟨env,s.h⟩:St).put o.dst (.opt true v)).hp s.h:=rfl;rw[e1]at ih1 ih2;simp only[YbK,Bool.not_eq_false']at hq;obtain⟨hq1,rfl⟩:=hq;cases hgd:o.guard with
     |none=>rw[hgd]at hq1;cases hq1
     |some jw=>
      refine⟨fun e=>?_,fun e=>?_⟩
      ·unfold ARun;simp only[hs,hgd];rw[←hg];exact⟨fun _=>hp,ih1 e⟩
      unfold DRun;simp only[hs,hgd];rw[←hg];subst e;exact⟨fun _=>hp,ih2 rfl⟩
   ·rename_i v he;rw[he]at hS;obtain⟨pre,R,hs,hp⟩:=hS;cases d with
    |false=>
     cases h;refine⟨fun _=>?_,fun e=>by cases e⟩;unfold ARun;simp only[hs];cases hgd:o.guard with
     |none=>exact⟨hp,hK env hT⟩
     |some jw=>simp only;rw[←hg];exact⟨hp,hK env hT⟩
    |true=>
     simp only[YaF]at h;cases hc:(ze1 ops i&&chk ops acc)with
     |false=>rw[hc]at h;cases h
     |true=>
      rw[hc]at h;cases h;simp only[Yg]at hc;refine⟨fun e=>(by cases e),fun _=>?_⟩;unfold DRun;simp only[hs];cases hgd:o.guard with
      |none=>exact⟨hp,hc.1,hc.2,hK env hT⟩
      |some jw=>simp only;rw[←hg];exact⟨hp,hc.1,hc.2,hK env hT⟩
   cases h
  ·rename_i hgv;rw[hgv]at hg;cases hgd:o.guard with
   |none=>unfold gval at hg;rw[hgd]at hg;cases hg
   |some jw=>
    obtain⟨hT',hh'⟩:=zdi hT hdo (zpU C P (evT s.t) o.op s.h).1 s.h;obtain⟨ih1,ih2⟩:=zik hΔ os (i+1) _ (bif d then accF acc i (zpU C P (evT s.t) o.op s.h).2 else acc) o' s' _ h hT' hds hK;rw[hh']at ih1 ih2;have hk:zpU C P (evT s.t) o.op s.h=(match step1 C P env o.op s.h with| .ok true _ v _ f=>(.opt false v,⟨f.R,[],0,0⟩)|_=>(undefV,⟨[],[],0,0⟩)):=by rw[hT.ev];exact eSkip_eq _ _ _ _
    rw[hk]at ih1 ih2;refine⟨fun e=>?_,fun e=>?_⟩
    ·have ih:=ih1 e;unfold ARun;simp only[hgd];rw[←hg];simp only;revert ih;generalize step1 C P env o.op s.h=sr;intro ih;cases sr with
     |ok st pre v h f=>
      cases st with
      |true=>exact⟨fun e=>(by cases e),ih⟩
      |false=>exact ih
     |pan pre v R=>exact ih
     |bad=>exact⟨rfl,ih⟩
    have ih:=ih2 e;subst e;unfold DRun;simp only[hgd];rw[←hg];simp only;revert ih;generalize step1 C P env o.op s.h=sr;intro ih;cases sr with
    |ok st pre v h f=>
     cases st with
     |true=>exact⟨fun e=>(by cases e),ih⟩
     |false=>exact ih
    |pan pre v R=>exact ih
    |bad=>exact⟨rfl,ih⟩
  cases h
def KTL(K:Out→St→Prop)(l:List (Out×TS)):Prop:=∀p∈l,KT K p.1 p.2
def KTL.one {K:Out→St→Prop}{o:Out}{s:TS}(h:KTL K [(o,s)]):KT K o s:=h (o,s) (YA ..)
def zfU {f:TS→OL}:∀ {l l':List (Out×TS)},zi9 f l=some l'→∀p∈l,(p.1=.norm→∃l1,f p.2=some l1∧∀q∈l1,q∈l')∧(p.1≠.norm→p∈l')
 |[],l',h,p,hp=>by cases hp
 |(o,s)::r,l',h,p,hp=>by
  unfold zi9 at h;have other:∀ {o:Out} {s:TS},(match zi9 f r with|some l''=>some ((o,s)::l'')|none=>none)=some l'→o≠.norm→p∈(o,s)::r→(p.1=.norm→∃l1,f p.2=some l1∧∀q∈l1,q∈l')∧(p.1≠.norm→p∈l'):=by
   intro o s h hne hp;split at h
   ·rename_i l2 h2;cases h;rcases Yy.1 hp with rfl|hp
    ·exact⟨fun e=>absurd e hne,fun _=>YA ..⟩
    obtain⟨k1,k2⟩:=zfU h2 p hp;refine⟨fun e=>?_,fun e=>YD _ (k2 e)⟩;obtain⟨l1,e1,e2⟩:=k1 e;exact⟨l1,e1,fun q hq=>YD _ (e2 q hq)⟩
   cases h
  cases o with
  |norm=>
   cases r with
   |nil=>simp only[YW]at hp;subst hp;exact⟨fun _=>⟨l',h,fun q hq=>hq⟩,fun e=>absurd rfl e⟩
   |cons p2 r2=>
    simp only at h;split at h
    ·rename_i l1 h1;split at h
     ·rename_i l2 h2;cases h;rcases Yy.1 hp with rfl|hp
      ·exact⟨fun _=>⟨l1,h1,fun q hq=>YG _ hq⟩,fun e=>absurd rfl e⟩
      obtain⟨k1,k2⟩:=zfU h2 p hp;refine⟨fun e=>?_,fun e=>YH _ (k2 e)⟩;obtain⟨l3,e1,e2⟩:=k1 e;exact⟨l3,e1,fun q hq=>YH _ (e2 q hq)⟩
     cases h
    cases h
  |exit i=>exact other h (by intro e;cases e) hp
  |ret=>exact other h (by intro e;cases e) hp
  |panic v=>exact other h (by intro e;cases e) hp
def zrQ {id:Nat}:∀ {l:List (Out×TS)},∀p∈l,(match p with|(.exit i,s)=>bif Nat.beq i id then(.norm,s)else(.exit i,s)|p=>p)∈endB id l
 |q::r,p,hp=>by
  rcases Yy.1 hp with rfl|hp
  ·exact YA ..
  exact YD _ (zrQ p hp)
def znz {C:Cfg}{ops:Array Oper}{o:Oper}{os:List Oper}{s:TS}:∀ {qs:List XR} {l:List (Out×TS)},zuU C P ops o os s qs=some l→∀q∈qs,wok C q.W=true∧∃p∈l,eRun C P ops false os 1 (s.put o.dst q.v q.h) []=some p
 |q::r,l,h,x,hx=>by
  unfold zuU at h;cases hw:wok C q.W with
  |false=>rw[hw]at h;cases h
  |true=>
   rw[hw]at h;simp only[YaF]at h;split at h
   ·rename_i p hp;split at h
    ·rename_i l2 h2;cases h;rcases Yy.1 hx with rfl|hx
     ·exact⟨hw,p,YA ..,hp⟩
     obtain⟨k1,p',k2,k3⟩:=znz h2 x hx;exact⟨k1,p',YD _ k2,k3⟩
    cases h
   cases h
def zmm {C:Cfg}(hΓ:zcz P C)(hΔ:∀f ags H r,C.Δ f ags H=some r→r.pre){ops:Array Oper}{i:Nat}{o:Oper}{t:Tr}{env:Env}{h h':Hp}{st:Bool}{v:V}{f:Foot}(ho:ops[i]? =some o)(hg:o.guard=none) (hT:TE t env) (he:zi8 C P t o.op h=.ok st v h' f) (hw:wok C f.W=true):StepOK C P ops i ⟨env,h⟩ (((⟨env,h⟩:St).put o.dst v).hp h') v f:=by
 have hS:=zg3 (P:=P) hΔ hT o.op h;rw[he]at hS;obtain⟨pre,hs,hp⟩:=hS;have sem:=zcG hΓ ops o env h;rw[hs]at sem;have hst:StepSem P C.nt ops o env h st v h' f:=sem hp;refine⟨by rw[znB ho];rfl,hst.stat,hw,hst.births,?_⟩;intro o' ho' g base D w a next Q hI hO hD hn
 obtain rfl:=Yj (ho.symm.trans ho');exact zcF ho (by unfold Region.wanted;rw[hg]) (hst.exec g base D w a next Q hI hO hD hn)
structure TPok(C:Cfg)(P:Program)(p:TP)(o:Oper)(S S':St):Prop where
 guard:o.guard=none
 step:∃st,zi8 C P p.s.t o.op p.s.h=.ok st p.v p.e.h p.f
 wok:wok C p.f.W=true
 te:TE p.s.t S.env
 heap:S.h=p.s.h
 next:S'=(S.put o.dst p.v).hp p.e.h
def znw {C:Cfg}:∀(os:List Oper)(s:TS)(l:List TP)(e:TS)(env:Env),zgB C P os s=some (l,e)→TE s.t env→(∀o∈os,∀d,o.dst=some d→d<4095)→∃S:Nat→St,S 0=⟨env,s.h⟩∧l.length=os.length∧TE e.t (S os.length).env∧(S os.length).h=e.h∧∀k,k<os.length→∃p o,l[k]? =some p∧os[k]? =some o∧TPok C P p o (S k) (S (k+1))
 |[],s,l,e,env,h,hT,_=>by unfold zgB at h;cases h;exact⟨fun _=>⟨env,s.h⟩,rfl,rfl,hT,rfl,fun k hk=>by simp at hk⟩
 |o::os,s,l,e,env,h,hT,hd=>by
  unfold zgB at h;split at h
  ·cases h
  rename_i hg;split at h;rotate_left;·cases h
  rename_i st v h' f he;cases hw:wok C f.W with
  |false=>rw[hw]at h;cases h
  |true=>
   rw[hw]at h;simp only[YaF]at h;split at h;rotate_left;·cases h
   rename_i l' e' hr;cases h;obtain⟨hT',hh'⟩:=zdi hT (hd o Zs) v h';obtain⟨S,s0,s1,s2,s3,s4⟩:=znw os (s.put o.dst v h') l' e _ hr hT' fun o ho=>hd o (YD _ ho);refine⟨fun k=>match k with|0=>⟨env,s.h⟩|k+1=>S k,rfl,by simp[s1],s2,s3,fun k hk=>?_⟩;cases k with
   |zero=>
    refine⟨_,_,rfl,rfl,hg,⟨st,?_⟩,hw,hT,rfl,?_⟩
    ·show zi8 C P s.t o.op s.h=.ok st v (s.put o.dst v h').h f;rw[hh'];exact he
    show S 0=_;rw[s0];show _=((⟨env,s.h⟩:St).put o.dst v).hp (s.put o.dst v h').h;rw[hh'];rfl
   |succ k=>obtain⟨p,o1,q1,q2,q3⟩:=s4 k (by simpa using hk);exact⟨p,o1,by simpa using q1,by simpa using q2,q3⟩
def zhc {t:TypeId}{b:Nat}{k:V}{ok:Bool}{H:Hp}{r:XR}(h:zbb P t (.map b) k ok H=some r):r.h=H∧r.R=[b]∧r.W=[]:=by
 unfold zbb at h;split at h
 ·split at h
  ·simp only at h;split at h
   ·split at h
    ·cases h;exact⟨rfl,rfl,rfl⟩
    ·cases h;exact⟨rfl,rfl,rfl⟩
    cases h
   cases h
  cases h
 cases h
def zy0 {C:Cfg}(hΓ:zcz P C)(hΔ:∀f ags H r,C.Δ f ags H=some r→r.pre){ops:Array Oper}{s:TS}{l:List (Out×TS)}{env:Env}{K:Out→St→Prop} (hd:∀o∈ops.toList,∀d,o.dst=some d→d<4095) (hdn:∀o∈ops.toList,∀d,o.dst=some d→d<C.nt) (hok:zcM ops=true) (h:eLate C P ops s=some l) (hT:TE s.t env) (hK:KTL K l) (hk:∀b x,s.h.get b=some x→b<s.h.next):∃m S v f,DEnd C P ops ⟨env,s.h⟩ K m S v f:=by
 unfold eLate at h;split at h;rotate_left;·cases h
 rename_i tr e htr;cases hc:((List.range tr.length).all fun i=>(List.range tr.length).all fun j=> !decide (i<j)||zrD P ops (masks ops) tr i j)with
 |false=>rw[hc]at h;cases h
 |true=>
 rw[hc]at h;cases h;obtain⟨S,s0,s1,s2,s3,s4⟩:=znw ops.toList s tr e env htr hT hd;have hn:ops.toList.length=ops.size:=Y4;rw[hn]at s1 s2 s3 s4;let v:Nat→V:=fun k=>((tr[k]?).map (·.v)).getD .any
 let f:Nat→Foot:=fun k=>((tr[k]?).map (·.f)).getD ⟨[],[],0,0⟩
 have hv:∀ {k p},tr[k]? =some p→v k=p.v:=fun e=>by simp only[v,e];rfl
 have hf:∀ {k p},tr[k]? =some p→f k=p.f:=fun e=>by simp only[f,e];rfl
 have step:∀k,k<ops.size→StepOK C P ops k (S k) (S (k+1)) (v k) (f k):=by
  intro k hk;obtain⟨p,o,q1,q2,q⟩:=s4 k hk;obtain⟨st,he⟩:=q.step;have ho:ops[k]? =some o:=by rw[←YE];exact q2
  have:=zmm hΓ hΔ ho q.guard q.te he q.wok;rw[hv q1,hf q1,q.next];have e0:S k=⟨(S k).env,p.s.h⟩:=by rw[←q.heap]
  rw[e0];exact this
 have R:TRun C P ops ops.size S v f:=⟨Yc _,hok,step,by rw[s0];exact hk,hdn⟩;refine⟨ops.size,S,v,f,Yc _,s0,step,fun i j b hij hj hb=>?_,.inl ⟨rfl,?_⟩⟩
 ·have hcl:=zlD R hij hj hb;obtain⟨p,o,q1,q2,q⟩:=s4 i Zo;obtain⟨pj,oj,r1,r2,rj⟩:=s4 j hj;have h1:=Yo.1 (Yo.1 hc i (by simp[s1];omega)) j (by simp[s1];omega);have ho:ops[i]? =some o:=by rw[←YE];exact q2
  simp only[hij,YbD,Ybj,YaB]at h1;unfold zrD at h1;simp only[q1,r1]at h1;rw[←hf q1,←hf r1,hcl]at h1;simp only[Ybj,YaB,Yao,Yg]at h1;rcases h1 with h1|⟨h1,h2⟩
  ·exact .inl (zcU h1)
  refine .inr ?_;rw[ho]at h1;unfold lateB at h1;simp only at h1;split at h1;rotate_left;·cases h1
  rename_i ty x k hop;split at h1;rotate_left;·cases h1
  rename_i b0 kv hx hkv;split at h1;rotate_left;·cases h1
  rename_i y hy;split at h1;rotate_left;·cases h1
  rename_i r hr;simp only[Yg,YaN]at h1;obtain⟨st,he⟩:=q.step;have he0:=he;rw[hop]at he;unfold zi8 at he;simp only[hx,hkv]at he;cases hl:zbb P ty (.map b0) kv false p.s.h with
  |none=>rw[hl]at he;cases he
  |some r0=>
   rw[hl]at he;obtain⟨k1,k2,k3⟩:=zhc hl;obtain⟨m1,m2,m3⟩:=zhc hr;simp only[eXR,ER.ok.injEq]at he;obtain⟨_,e1,e2,e3⟩:=he;have hfi:f i=⟨[b0],[],p.s.h.next,p.s.h.next⟩:=by rw[hf q1,←e3,k1,k2,k3]
   have hSi:(S (i+1)).h=(S i).h:=by rw[q.next,q.heap];show p.e.h=p.s.h;rw[←e2,k1]
   have hSj:(S (j+1)).h=pj.e.h:=by rw[rj.next];rfl
   have nt:∀b', ¬touch S f i b':=by
    rintro b' (ht|ht)
    ·rw[hfi]at ht;cases ht
    rw[hSi]at ht;omega
   have hbb:b=b0:=by
    rcases hb with⟨ht,_⟩|⟨ht,_⟩
    ·exact absurd ht (nt b)
    rw[hfi]at ht;simpa using ht
   subst hbb;refine⟨by rw[hfi],hSi,by rw[hSj,q.heap];exact h1.2,⟨y,by rw[hSj];exact hy,?_⟩,fun k' b' hk' ht' hbR hik=>?_⟩
   ·have he':zi8 C P p.s.t o.op (p.s.h.put b y)=.ok false p.v (p.s.h.put b y) (f i):=by rw[hop];unfold zi8;simp only[hx,hkv,hr,eXR,ER.ok.injEq];refine⟨trivial,zlV h1.1,m1,?_⟩;rw[hfi,m1,m2,m3];rfl
    have:=zmm hΓ hΔ ho q.guard q.te he' (by rw[hfi];rfl);rw[hv q1,q.heap,q.next];have e5:∀d:Option Tmp,(((⟨(S i).env,p.s.h.put b y⟩:St).put d p.v).hp (p.s.h.put b y))=⟨(((S i).put d p.v).hp p.e.h).env,p.s.h.put b y⟩:=fun d=>by cases d<;>rfl
    rw[e5]at this;exact this
   have hb':b'=b:=by rw[hfi]at hbR;simpa using hbR
   subst hb';by_cases hkj:k'=j
   ·exact .inl ⟨hkj,rfl⟩
   refine .inr ?_;obtain⟨pk,ok,t1,_,_⟩:=s4 k' hk';have h3:=Yo.1 h2 k' (by simp[s1];omega);have hck:=zlD R hik hk' (.inr ⟨hbR,ht'⟩);simp only[t1,←hf t1,hck,hik,YbD,Ybj,YaB,YcH,Yao]at h3;rcases h3 with h3|h3
   ·exact absurd (YaS h3) hkj
   exact zcU h3
 ·have:S ops.size=⟨(S ops.size).env,e.h⟩:=by rw[←s3]
  rw[this];exact hK.one _ s2
def zuR {C:Cfg}(hm:P.follows .mixedOrders=true)(hΓ:zcz P C)(hk:C.keep=fun _=>true)(hΔ:∀f ags H r,C.Δ f ags H=some r→r.pre)(hnt:C.nt≤4000){id:Nat}{ops:Array Oper}{d:Bool}{s:TS}{l:List (Out×TS)}{env:Env}{K:Out→St→Prop} (hc:zas C.nt (.region id ops d)=true) (h:zim C P ops d s=some l) (hT:TE s.t env) (hK:KTL K l):AX C P (.region id ops d) ⟨env,s.h⟩ K:=by
 simp only[zas,Yg]at hc;have hd:∀o∈ops.toList,∀d,o.dst=some d→d<4095:=fun o ho d e=>Yu (zbC hc.1 o ho d e) (Ys hnt Zd);have trim:∀ {o':Out} {s':TS},KT K o' s'→KT (zb1 C.keep K) o' s':=by
  intro o' s' hK env1 h1;cases o' with
  |norm=>show K .norm ((⟨env1,s'.h⟩:St).trim C.keep);rw[hk];exact hK _ h1.trim
  |exit i=>exact hK env1 h1
  |ret=>exact hK env1 h1
  |panic v=>exact hK env1 h1
 have plain:single (eRun C P ops d ops.toList 0 s [])=some l→AX C P (.region id ops d) ⟨env,s.h⟩ K:=by
  intro h;cases hr:eRun C P ops d ops.toList 0 s []with
  |none=>rw[hr]at h;cases h
  |some p=>
   obtain⟨o',s'⟩:=p;rw[hr]at h;cases h;have hr:=zik hΔ ops.toList 0 s [] o' s' env hr hT hd (trim hK.one);cases d with
   |false=>exact AX.region hΓ hc.1 (hr.1 rfl)
   |true=>have:=hc.2;simp only[Ybj,YaB]at this;exact AX.draw hm hΓ hc.1 this (hr.2 rfl)
 have KTLtrim:∀ {l':List (Out×TS)},KTL K l'→KTL (zb1 C.keep K) l':=fun hk p hp=>trim (hk p hp);unfold zim at h;split at h
 ·rename_i o os ho;split at h
  ·rename_i it hop hg;split at h;rotate_left;·cases h
   rename_i v hv;split at h;rotate_left;·cases h
   rename_i qs hqs;obtain⟨rfl,hcond⟩:=zB hT hv;refine AX.next (s:=⟨env,s.h⟩) hΓ hc.1 ho hop hg hcond hqs fun q hq=>?_;obtain⟨hw,p,hpl,hrun⟩:=znz h q hq;refine⟨hw,?_⟩;obtain⟨hT',hh'⟩:=zdi hT (hd o (by rw[ho];exact YA ..)) q.v q.h;have:=(zik hΔ os 1 (s.put o.dst q.v q.h) [] p.1 p.2 _ hrun hT' (fun o' ho'=>hd o' (by rw[ho];exact YD _ ho')) (trim (hK p hpl))).1 rfl;rw[hh']at this;exact this
  rw[←ho]at h;exact plain h
 ·exact plain h
 split at h
 ·rename_i p hp;exact plain (by rw[hp];exact h)
 have hdr:=hc.2;simp only[Ybj,YaB]at hdr;exact Xu hm hc.1 hdr fun hkeys=>zy0 hΓ hΔ hd (zbC hc.1) hdr h hT (KTLtrim hK) hkeys
def zrR {C:Cfg}{x:Code}{f:TS→OL}{K:Out→St→Prop} (hf:∀(s:TS)(l:List (Out×TS))(env:Env)(K:Out→St→Prop),f s=some l→TE s.t env→KTL K l→AX C P x ⟨env,s.h⟩ K):∀(n:Nat)(s:TS)(l:List (Out×TS))(env:Env),zuT f n s=some l→TE s.t env→KTL K l→AXn C P x K n ⟨env,s.h⟩
 |0,s,l,env,h,hT,hK=>by cases h
 |n+1,s,l,env,h,hT,hK=>by
  unfold zuT at h;cases hr:f s with
  |none=>rw[hr]at h;cases h
  |some l1=>
   rw[hr]at h;refine hf s l1 env _ hr hT fun p hp=>?_;obtain⟨k1,k2⟩:=zfU h p hp;obtain⟨o1,s1⟩:=p;cases o1 with
   |norm=>obtain⟨l2,e1,e2⟩:=k1 rfl;exact fun env1 h1=>zrR hf n s1 l2 env1 e1 h1 fun q hq=>hK q (e2 q hq)
   |exit i=>exact hK _ (k2 (by intro e;cases e))
   |ret=>exact hK _ (k2 (by intro e;cases e))
   |panic v=>exact hK _ (k2 (by intro e;cases e))
def zcX {C:Cfg}{N:Nat}(hm:P.follows .mixedOrders=true)(hΓ:zcz P C)(hk:C.keep=fun _=>true)(hΔ:∀f ags H r,C.Δ f ags H=some r→r.pre)(hnt:C.nt≤4000):∀(c:Code)(s:TS)(l:List (Out×TS))(env:Env)(K:Out→St→Prop),zas C.nt c=true→zdr C P N c s=some l→TE s.t env→KTL K l→AX C P c ⟨env,s.h⟩ K
 | .skip,s,l,env,K,_,h,hT,hK=>by cases h;exact AX.skip (hK.one env hT)
 | .ret,s,l,env,K,_,h,hT,hK=>by cases h;exact AX.ret (hK.one env hT)
 | .exit id,s,l,env,K,_,h,hT,hK=>by cases h;exact AX.exit (hK.one env hT)
 | .seq x y,s,l,env,K,hc,h,hT,hK=>by
  simp only[zas,Yg]at hc;unfold zdr at h;cases hr:zdr C P N x s with
  |none=>rw[hr]at h;cases h
  |some l1=>
   rw[hr]at h;refine AX.seq (zcX hm hΓ hk hΔ hnt x s l1 env _ hc.1 hr hT fun p hp=>?_);obtain⟨k1,k2⟩:=zfU h p hp;obtain⟨o1,s1⟩:=p;cases o1 with
   |norm=>obtain⟨l2,e1,e2⟩:=k1 rfl;exact fun env1 h1=>zcX hm hΓ hk hΔ hnt y s1 l2 env1 K hc.2 e1 h1 fun q hq=>hK q (e2 q hq)
   |exit i=>exact hK _ (k2 (by intro e;cases e))
   |ret=>exact hK _ (k2 (by intro e;cases e))
   |panic v=>exact hK _ (k2 (by intro e;cases e))
 | .block id x,s,l,env,K,hc,h,hT,hK=>by
  unfold zdr at h;cases hr:zdr C P N x s with
  |none=>rw[hr]at h;cases h
  |some l1=>
   rw[hr]at h;cases h;refine AX.block (zcX hm hΓ hk hΔ hnt x s l1 env _ hc hr hT fun p hp=>?_);have hmem:=zrQ (id:=id) p hp;obtain⟨o1,s1⟩:=p;cases o1 with
   |norm=>exact hK _ hmem
   |exit i=>
    simp only at hmem;intro env1 h1;show (if i=id then K .norm ⟨env1,s1.h⟩else K (.exit i) ⟨env1,s1.h⟩);by_cases e:i=id
    ·rw[Yi e];rw[e,zn9]at hmem;exact hK _ hmem env1 h1
    rw[Yh e];rw[zoa e]at hmem;exact hK _ hmem env1 h1
   |ret=>exact hK _ hmem
   |panic v=>exact hK _ hmem
 | .cond c x y,s,l,env,K,hc,h,hT,hK=>by
  simp only[zas,Yg]at hc;unfold zdr at h;split at h
  ·rename_i b hb;rw[hT.ev]at hb;refine AX.cond hb ?_;cases b with
   |true=>exact zcX hm hΓ hk hΔ hnt x s l env K hc.1 h hT hK
   |false=>exact zcX hm hΓ hk hΔ hnt y s l env K hc.2 h hT hK
  cases h
 | .region id ops d,s,l,env,K,hc,h,hT,hK=>zuR hm hΓ hk hΔ hnt hc h hT hK
 | .loop x,s,l,env,K,hc,h,hT,hK=>
  AX.rounds N (zrR (fun s l env K h hT hK=>zcX hm hΓ hk hΔ hnt x s l env K hc h hT hK) N s l env h hT hK)
 | .rangeFunc ..,_,_,_,_,_,h,_,_=>by cases h
 | .scope _,_,_,_,_,_,h,_,_=>by cases h
 | .label _,_,_,_,_,_,h,_,_=>by cases h
 | .goto _,_,_,_,_,_,h,_,_=>by cases h
 | .refuse _,_,_,_,_,_,h,_,_=>by cases h
end Go.Ab

namespace Go.Ab
def Stat.trans {H H1 H2:Hp}{W1 W2:ZN}(p:Stat H H1 W1)(q:Stat H1 H2 W2):Stat H H2 (W1++W2.filter (· <H.next)):=by
 refine⟨Ys p.next q.next,fun b hb hn=>?_,fun b hb=>?_,fun h=>q.keys (p.keys h)⟩
 ·rw[q.frame b (Yu hb p.next) fun h=>hn (YH _ (YaL.2 ⟨h,by simpa using hb⟩)),p.frame b hb fun h=>hn (YG _ h)]
 rcases Yar.1 hb with h|h
 ·exact p.live b h
 obtain⟨h1,h2⟩:=YaL.1 h;have hlt:b<H.next:=by simpa using h2
 by_cases hw:b∈W1
 ·exact p.live b hw
 obtain⟨x,hx⟩:=q.live b h1;rw[p.frame b hlt hw]at hx;exact⟨x,hx⟩
def Inv.more {g:G}{base:Nat}{H:Hp}{D:Nat→Prop}{w w2:World}(h:Inv g base H D w)(hb:Bel w.heap.size w w2):Inv g base H D w2:=
 ⟨fun c a e=>by rw[hb.block c (h.below_phi e)];exact h.frz c a e,fun b T e=>⟨(h.dom b T e).1,(h.dom b T e).2.1,Yu (h.dom b T e).2.2 hb.size⟩,h.keys,
  fun b x hd e=>let ⟨T,o,e1,e2,e3,e4⟩:=h.cont b x hd e;⟨T,o,e1,e2,by rw[hb.block _ (h.dom b T e1).2.2];exact e3,e4⟩,h.inj,Ys h.base hb.size⟩
def zbN {α:Type}(q:Nat→Bool)(c:Nat):∀l:List (Nat×α),(l.filter fun p=>q p.1).lookup c=if q c=true then l.lookup c else Option.none
 |[]=>Zs
 |p::r=>by
  rw[YaT,YC];by_cases hc:c=p.1
  ·subst hc;cases hq:q p.1 with
   |true=>obtain⟨k,x⟩:=p;simp at hq ⊢
   |false=>simp only[YS,if_false,Yba];rw[zbN q p.1 r,hq];simp
  have hb:(c==p.1)=false:=by simp[hc]
  rw[hb];cases hq:q p.1 with
  |true=>rw[Yi rfl,YC,hb];exact zbN q c r
  |false=>simp only[YS,if_false];exact zbN q c r
def zjA {α:Type}(c:Nat):∀l r:List (Nat×α),(l++r).lookup c=match l.lookup c with|some x=>some x|Option.none=>r.lookup c
 |[],r=>rfl
 |p::l,r=>by
  rw[Ya4,YC,YC];cases h:c==p.1 with
  |true=>rfl
  |false=>exact zjA c l r
section
variable {P:Program}
def HCall.frame {f:FuncId}{args:ZA}{H H1:Hp}{q:Nat→Bool}{r1:AR}{join:Hp}(hn:H1.next=H.next)(h1:∀b,H1.get b=if q b=true then H.get b else Option.none)
 (hj:∀b,join.get b=match r1.h.get b with|some x=>some x|Option.none=>if q b=true then Option.none else H.get b) (hjn:join.next=r1.h.next) (h:HCall P f args H1 r1):HCall P f args H { r1 with h:=join }:=by
 obtain⟨hs,hc⟩:=h
 have sub:∀ {b x},H1.get b=some x→q b=true∧H.get b=some x:=by
  intro b x e;rw[h1]at e;split at e
  ·rename_i hq;exact⟨hq,e⟩
  cases e
 have liveQ:r1.pre→∀b∈r1.W,q b=true∧∃x,H.get b=some x:=fun hp b hb=>by obtain⟨x,hx⟩:=(hs hp).live b hb;exact⟨(sub hx).1,x,(sub hx).2⟩
 have outside:r1.pre→∀b,b<H.next→¬q b=true→r1.h.get b=Option.none:=fun hp b hb hq=>by rw[(hs hp).frame b (hn▸hb) fun hw=>hq (liveQ hp b hw).1,h1,Yh hq]
 have fr:r1.pre→∀b,b<H.next→b∉r1.W→join.get b=H.get b:=fun hp b hb hw=>by
  rw[hj];by_cases hq:q b=true
  ·rw[(hs hp).frame b (hn▸hb) hw,h1,Yi hq,Yi hq];cases H.get b<;>rfl
  rw[outside hp b hb hq,Yh hq]
 refine⟨fun hp=>⟨by rw[hjn,←hn];exact(hs hp).next,fr hp,fun b hb=>(liveQ hp b hb).2,fun hk b x e=>?_⟩,fun hp g base D w vs hgl hI hvs hpw hD=>?_⟩
 ·show b<join.next;rw[hjn];have e':join.get b=some x:=e;rw[hj]at e';have hk1:∀b x,H1.get b=some x→b<H1.next:=fun b x e=>by rw[hn];exact hk b x (sub e).2
  split at e'
  ·rename_i y hy;exact(hs hp).keys hk1 b y hy
  split at e'
  ·cases e'
  have:=hk b x e';have:=(hs hp).next
  omega
 have hI1:Inv g base H1 D w:=⟨hI.frz,fun b T e=>by rw[hn];exact hI.dom b T e,fun b x e=>by rw[hn];exact hI.keys b x (sub e).2,fun b x hd e=>hI.cont b x hd (sub e).2,
  fun b b' x x' T T' hd hd' e e'=>hI.inj b b' x x' T T' hd hd' (sub e).2 (sub e').2,hI.base⟩
 refine(hc hp g base D w vs hgl hI1 hvs hpw hD).mono fun e w' q'=>?_
 obtain⟨g',vc,rfl,hv,p⟩:=q'
 refine⟨g',vc,rfl,hv,?_⟩
 have hDW:∀b∈r1.W,D b:=fun b hb=>hD b (YH _ hb)
 have old:∀b x,D b→¬q b=true→H.get b=some x→∃T o,g.mu b=some T∧g'.mu b=some T∧T.c<w.heap.size∧g'.phi T.c=Option.none∧w'.heap[T.c]? =some o∧BlkRel g x T o:=by
  intro b x hd hq e;obtain⟨T,o,e1,e2,e3,e4⟩:=hI.cont b x hd e;have hlt:=(hI.dom b T e1).2.2;refine⟨T,o,e1,p.le.1 _ _ e1,hlt,?_,?_,e4⟩
  ·cases hq2:g'.phi T.c with
   |none=>rfl
   |some a=>
    rcases p.newphi _ _ hq2 with h|h
    ·rw[e2]at h;cases h
    omega
  rw[p.frame T.c hlt fun b0 hb0 T0 e0 ec=>?_]
  ·exact e3
  obtain⟨hq0,x0,hx0⟩:=liveQ hp b0 hb0;have:=hI.inj b0 b x0 x T0 T (hDW b0 hb0) hd hx0 e e0 e1 ec;subst this;exact hq hq0
 have parts:∀b x,join.get b=some x→r1.h.get b=some x∨(r1.h.get b=Option.none∧¬q b=true∧H.get b=some x):=by
  intro b x e;rw[hj]at e;split at e
  ·rename_i y hy;cases e;exact .inl hy
  rename_i hy;split at e
  ·cases e
  rename_i hq;exact .inr ⟨hy,hq,e⟩
 refine⟨p.le,⟨p.inv.frz,fun b T e=>by rw[hjn];exact p.inv.dom b T e,fun b x e=>?_,fun b x hd e=>?_,fun b b' x x' T T' hd hd' e e' m m' ec=>?_,p.inv.base⟩,
  fun b T e=>by rw[←hn];exact p.newmu b T e,p.newphi,p.frame,p.size,p.os,p.tape,p.output,fr hp,by rw[hjn,←hn];exact p.anext⟩
 ·rw[hjn];rcases parts b x e with e|⟨_,_,e⟩
  ·exact p.inv.keys b x e
  have:=hI.keys b x e;have:=p.anext;omega
 ·rcases parts b x e with e|⟨_,hq,e⟩
  ·exact p.inv.cont b x (hn▸hd) e
  have hlt:=hI.keys b x e;obtain⟨T,o,e1,e2,e3,e4,e5,e6⟩:=old b x (hd.resolve_right Zo) hq e;exact⟨T,o,e2,e4,e5,e6.mono p.le⟩
 ·have mixed:∀ {b b' x x' T T'},(D b∨H.next≤b)→(D b'∨H.next≤b')→r1.h.get b=some x→¬q b'=true→H.get b'=some x'→g'.mu b=some T→g'.mu b'=some T'→T.c=T'.c→False:=by
   intro b b' x x' T T' hd hd' e hq e' m m' ec;have hlt':=hI.keys b' x' e';obtain⟨U,o,u1,u2,u3,_⟩:=old b' x' (hd'.resolve_right Zo) hq e';obtain rfl:T'=U:=by rw[u2]at m';exact(Yj m').symm
   rcases p.newmu b T m with m0|⟨hb,h|⟨b0,hb0,T0,e0,ec0⟩⟩
   ·have hlt:=(hI.dom b T m0).1;have hb1:q b=true∧∃y,H.get b=some y:=by
     by_cases hw:b∈r1.W
     ·exact liveQ hp b hw
     have:=(hs hp).frame b (hn▸hlt) hw;rw[e]at this;exact⟨(sub this.symm).1,x,(sub this.symm).2⟩
    obtain⟨hqb,y,hy⟩:=hb1;have:=hI.inj b b' y x' T T' (hd.resolve_right Zo) (hd'.resolve_right Zo) hy e' m0 u1 ec;subst this;exact hq hqb
   ·rw[ec]at h;omega
   obtain⟨hq0,x0,hx0⟩:=liveQ hp b0 hb0;have:=hI.inj b0 b' x0 x' T0 T' (hDW b0 hb0) (hd'.resolve_right Zo) hx0 e' e0 u1 (ec0.trans ec);subst this;exact hq hq0
  rcases parts b x e with e|⟨_,hq,e⟩<;>rcases parts b' x' e' with e'|⟨_,hq',e'⟩
  ·exact p.inv.inj b b' x x' T T' (hn▸hd) (hn▸hd') e e' m m' ec
  ·exact(mixed hd hd' e hq' e' m m' ec).elim
  ·exact(mixed hd' hd e' hq e m' m ec.symm).elim
  have hlt:=hI.keys b x e;have hlt':=hI.keys b' x' e';obtain⟨U,_,u1,u2,_⟩:=old b x (hd.resolve_right Zo) hq e;obtain⟨U',_,u1',u2',_⟩:=old b' x' (hd'.resolve_right Zo) hq' e';obtain rfl:T=U:=by rw[u2]at m;exact(Yj m).symm
  obtain rfl:T'=U':=by rw[u2']at m';exact(Yj m').symm
  exact hI.inj b b' x x' T T' (hd.resolve_right Zo) (hd'.resolve_right Zo) e e' u1 u1' ec
end
end Go.Ab
