/- A statement whose order is open: its soundness. -/
import Derived.Test.YtbdlfegfepggnaaGreatDoorAbDraw
set_option linter.all false
set_option maxHeartbeats 16000000
set_option maxRecDepth 100000
noncomputable section
namespace Go.Ab
section
variable {P:Program}{base:Nat}{D:Nat→Prop}
def zc3 {ops:Array Oper}{Q:Exit→Act→World→Prop}{i:Nat}{o:Oper}{K:Act→World→Prop}{a:Act}{w:World}(ho:ops[i]? =some o)(hw:Region.wanted o (yielded ops a.tmps)=true) (h:o.wp P a w K Q):wpOp P ops Q i K a w:=by unfold wpOp;simp only[ho,hw,if_true];exact .inl h
def zi7 {ops:Array Oper}{Q:Exit→Act→World→Prop}{i:Nat}{o:Oper}{K:Act→World→Prop}{a:Act}{w:World}(ho:ops[i]? =some o)(hw:Region.wanted o (yielded ops a.tmps)=false) (h:K (a.put o.dst undef) w):wpOp P ops Q i K a w:=by unfold wpOp;simp only[ho,hw,Y2,if_false];exact h
def zp4 {ops:Array Oper}{i:Nat}{o:Oper}(h:ops[i]? =some o):zfC ops i=o.dst:=by simp[zfC,h]
def PanOK(C:Cfg)(P:Program)(ops:Array Oper)(i:Nat)(s:St)(v:V):Prop:=
 ∀(g0:G)(base:Nat)(D:Nat→Prop)(H0:Hp)(w0:World)(g:G)(a:Act)(w:World)(K:Out→St→Prop)(Q:Exit→Act→World→Prop)(next:Act→World→Prop),Entry C base D g0 H0 w0→
  Rel C base D g0 H0 w0 g s a w→(∀e a w,Aft C base D g0 H0 w0 K e a w→Q e a w)→K (.panic v) s→wpOp P ops Q i next a w
def DStep_ok {C:Cfg}{ops:Array Oper}{o:Oper}{os:List Oper}{i:Nat}{s:St}{acc:List (Nat×Foot)}{K:Out→St→Prop}(hΓ:zfg P C)(ho:ops[i]? =some o)(h:DRun C P ops (o::os) i s acc K):(∃f s' v,DRun C P ops os (i+1) s' (accF acc i f) K∧StepOK C P ops i s s' v f)∨(∃v,(zg1 ops i=true∧chk ops acc=true∧K (.panic v) s)∧PanOK C P ops i s v):=by
 have hdst:=zp4 ho;have sem:=zeM hΓ ops o s.env s.h;have want0:o.guard=none→∀a:Act,Region.wanted o (yielded ops a.tmps)=true:=fun e a=>by unfold Region.wanted;rw[e]
 have stp:∀(st:Bool)(v:V)(h':Hp)(f:Foot),StepSem P C.nt ops o s.env s.h st v h' f→wok C f.W=true→(∀(g:G)(a:Act),OpsRel g C.nt ops o s.env a→Region.wanted o (yielded ops a.tmps)=true)→
  StepOK C P ops i s ((s.put o.dst v).hp h') v f:=by
  intro st v h' f hst hw hwant
  refine⟨by rw[hdst];rfl,hst.stat,hw,hst.births,?_⟩
  intro o' ho' g base D w a next Q hI hO hD hn
  obtain rfl:=Yh (ho.symm.trans ho')
  exact zc3 ho (hwant g a hO) (hst.exec g base D w a next Q hI hO hD hn)
 have unw:∀(v:V)(f:Foot),f.W=[]→(∀g:G,VRel g v undef)→(∀(g:G)(a:Act),OpsRel g C.nt ops o s.env a→Region.wanted o (yielded ops a.tmps)=false)→StepOK C P ops i s ((s.put o.dst v).hp s.h) v f:=by
  intro v f hf hv hwant;refine⟨by rw[hdst];rfl,by rw[hf];exact Stat.refl _,by rw[hf];rfl,fun b h1 h2=>by have:b<s.h.next:=h2;omega,?_⟩;intro o' ho' g base D w a next Q hI hO hD hn
  obtain rfl:=Yh (ho.symm.trans ho');refine zi7 ho (hwant g a hO) (hn g w undef (hv g) ?_);rw[hf];exact Post.refl hI rfl rfl ⟨rfl,Yc _⟩ rfl
 have pan:∀(v:V)(R:ZN),zi1 P C.nt ops o s.env s.h v R→(∀(g:G)(a:Act),OpsRel g C.nt ops o s.env a→Region.wanted o (yielded ops a.tmps)=true)→PanOK C P ops i s v:=by
  intro v R hst hwant g0 base D H0 w0 g a w K Q next he hr hQ hk
  have hO:=hr.env.ops ops o;refine zc3 ho (hwant g a hO) ?_;refine hst g base _ w a _ Q hr.post.inv hO (fun b _=>he.inD b) fun g' w' vc hv hp=>?_;exact hQ _ _ _ ⟨.panic v,s,g',hk,⟨vc,hv,rfl⟩,hr.env.mono hp.le,hr.defers,hr.step he hp rfl⟩
 unfold DRun at h;split at h
 ·rename_i hg;rcases zwo sem h with⟨st,v,h',f,hk,hwk,hst⟩|⟨v,R,hk,hst⟩
  ·exact .inl ⟨f,_,v,hk,stp st v h' f hst hwk fun g a _=>want0 hg a⟩
  exact .inr ⟨v,hk,pan v R hst fun g a _=>want0 hg a⟩
 split at h;rotate_left;·exact h.elim
 rename_i gb hg;have hwant:∀(g:G)(a:Act),OpsRel g C.nt ops o s.env a→Region.wanted o (yielded ops a.tmps)=gb:=fun g a hO=>zm4 hO.rel hg;rcases zob sem h with⟨rfl,st,v,h',f,hk,hwk,hst⟩|⟨rfl,v,R,hk,hst⟩|⟨rfl,hk⟩|⟨v,R,hk,hst⟩
 ·exact .inl ⟨f,_,v,hk,stp st v h' f hst hwk hwant⟩
 ·exact .inr ⟨v,hk,pan v R hst hwant⟩
 ·exact .inl ⟨⟨[],[],0,0⟩,_,undefV,hk,unw undefV _ rfl (fun g=>Xf rfl PW.nil) hwant⟩
 cases gb with
 |false=>exact .inl ⟨⟨R,[],0,0⟩,_,.opt false v,hk,unw _ _ rfl (fun g=>zg4 rfl) hwant⟩
 |true=>
  refine .inl ⟨⟨R,[],0,0⟩,_,.opt true v,hk,?_⟩;have hst:=hst rfl;refine⟨by rw[hdst];rfl,hst.stat,rfl,hst.births,?_⟩;intro o' ho' g base D w a next Q hI hO hD hn
  obtain rfl:=Yh (ho.symm.trans ho');exact zc3 ho (hwant g a hO) (hst.exec g base D w a next Q hI hO hD fun g' w' vc hv hp=>hn g' w' vc (znC rfl hv) hp)
end
end Go.Ab

namespace Go.Ab
section
variable {P:Program}{base:Nat}{D:Nat→Prop}
structure DSpec(C:Cfg)(P:Program)(ops:Array Oper)(i:Nat)(s:St)(acc:List (Nat×Foot))(K:Out→St→Prop)(m:Nat)(S:Nat→St)(v:Nat→V)(f:Nat→Foot)(acc':List (Nat×Foot)):Prop where
 im:i≤m
 hm:m≤ops.size
 start:S i=s
 step:∀k,i≤k→k<m→StepOK C P ops k (S k) (S (k+1)) (v k) (f k)
 feet:∀k,i≤k→k<m→(f k).idle=true∨(k,f k)∈acc'
 old:∀p∈acc,p∈acc'
 chk:chk ops acc'=true
 fin:(m=ops.size∧K .norm (S m))∨(m<ops.size∧zg1 ops m=true∧∃pv,K (.panic pv) (S m)∧
  ∀(g0:G)(base:Nat)(D:Nat→Prop)(H0:Hp)(w0:World)(g:G)(a:Act)(w:World)(Q:Exit→Act→World→Prop)(next:Act→World→Prop),Entry C base D g0 H0 w0→
   Rel C base D g0 H0 w0 g (S m) a w→(∀e a w,Aft C base D g0 H0 w0 K e a w→Q e a w)→(∀o∈ops.toList,∀d,o.dst=some d→d<C.nt)→wpOp P ops Q m next a w)
def zmW {C:Cfg}{ops:Array Oper}{K:Out→St→Prop}(hΓ:zfg P C):∀(os:List Oper)(i:Nat),i≤ops.size→ops.toList.drop i=os→∀(s:St)(acc:List (Nat×Foot)),DRun C P ops os i s acc K→∃m S v f acc',DSpec C P ops i s acc K m S v f acc'
 |[],i,hi,hd,s,acc,h=>by
  have hn:i=ops.size:=by
   have:ops.toList.length≤i:=by simpa using hd
   simp at this;omega
  exact⟨i,fun _=>s,fun _=>.any,fun _=>⟨[],[],0,0⟩,acc,Yc _,hi,rfl,fun k h1 h2=>Zo,fun k h1 h2=>Zo,fun p hp=>hp,h.1,.inl ⟨hn,h.2⟩⟩
 |o::os,i,hi,hd,s,acc,h=>by
  have ho:ops[i]? =some o:=by
   have:(ops.toList.drop i)[0]? =some o:=by rw[hd];rfl
   rw[Y8]at this;rw[←YF];simpa using this
  have hilt:i<ops.size:=(YA.1 ho).1;have hos:ops.toList.drop (i+1)=os:=by rw[←YaR,hd];rfl
  have cons:∀ {s':St} {acc1:List (Nat×Foot)} {vi:V} {fi:Foot},StepOK C P ops i s s' vi fi→(∀p∈acc,p∈acc1)→(fi.idle=true∨(i,fi)∈acc1)→DRun C P ops os (i+1) s' acc1 K→
   ∃m S v f acc',DSpec C P ops i s acc K m S v f acc':=by
   intro s' acc1 vi fi hst hsub hfi hr
   obtain⟨m,S,v,f,acc',T⟩:=zmW hΓ os (i+1) hilt hos s' acc1 hr
   have hS:∀k, ¬k≤i→(fun k=>if k≤i then s else S k) k=S k:=fun k hk=>Ye hk
   refine⟨m,fun k=>if k≤i then s else S k,fun k=>if k=i then vi else v k,fun k=>if k=i then fi else f k,acc',?_⟩
   have him:=T.im
   refine⟨Zo,T.hm,Yi (Yc _),fun k h1 h2=>?_,fun k h1 h2=>?_,fun p hp=>T.old p (hsub p hp),T.chk,?_⟩
   ·by_cases hk:k=i
    ·subst hk;simp only[Yc,if_true,Ye (show ¬k+1≤k by omega)];rw[T.start];exact hst
    simp only[Ye (show ¬k≤i by omega),Ye (show ¬k+1≤i by omega),Ye hk];exact T.step k Zo h2
   ·by_cases hk:k=i
    ·subst hk;simp only[if_true];exact hfi.imp id fun h=>T.old _ h
    simp only[Ye hk];exact T.feet k Zo h2
   ·simp only[Ye (show ¬m≤i by omega)];exact T.fin
  rcases DStep_ok hΓ ho h with⟨fi,s',vi,hk,hst⟩|⟨pv,⟨hp1,hp2,hp3⟩,hpan⟩
  ·refine cons hst (fun p hp=>?_) ?_ hk
   ·unfold accF;split
    ·exact hp
    exact Yaa _ hp
   by_cases hid:fi.idle=true
   ·exact .inl hid
   unfold accF;rw[Ye hid];exact .inr (YK ..)
  refine⟨i,fun _=>s,fun _=>.any,fun _=>⟨[],[],0,0⟩,acc,Yc _,hi,rfl,fun k h1 h2=>Zo,fun k h1 h2=>Zo,fun p hp=>hp,hp2,.inr ⟨hilt,hp1,pv,hp3,?_⟩⟩;intro g0 base D H0 w0 g a w Q next he hr hQ _
  exact hpan g0 base D H0 w0 g a w K Q next he hr hQ hp3
def zn5 {f:Foot}(h:f.idle=true):f.R=[]∧f.W=[]∧f.lo=f.hi:=by simp only[Foot.idle,Yj,List.isEmpty_iff,beq_iff_eq]at h;exact⟨h.1.1,h.1.2,h.2⟩
def DSpec.trun {C:Cfg}{ops:Array Oper}{s:St}{acc':List (Nat×Foot)}{K:Out→St→Prop}{m:Nat}{S:Nat→St}{v:Nat→V}{f:Nat→Foot}(T:DSpec C P ops 0 s [] K m S v f acc') (hok:zco ops=true) (hk:∀b x,s.h.get b=some x→b<s.h.next) (hd:∀o∈ops.toList,∀d,o.dst=some d→d<C.nt):TRun C P ops m S v f:=
 ⟨T.hm,hok,fun k hk=>T.step k (Yk _) hk,by rw[T.start];exact hk,hd⟩
def clash_of {C:Cfg}{ops:Array Oper}{m:Nat}{S:Nat→St}{v:Nat→V}{f:Nat→Foot}(R:TRun C P ops m S v f){i j b:Nat}(hij:i<j)(hj:j<m) (hb:(touch S f i b∧(b∈(f j).R∨touch S f j b))∨(b∈(f i).R∧touch S f j b)):clash (f i) (f j)=true:=by
 have hbi:∀k,k<m→(S k).h.next≤b→b<(S (k+1)).h.next→(f k).lo≤b∧b<(f k).hi:=fun k hk h1 h2=>(R.step k hk).births b h1 h2;unfold clash;simp only[Yaj,List.any_eq_true,Yj,Yn,Ybl];rcases hb with⟨h1,h2⟩|⟨h1,h2⟩
 ·rcases h1 with h1|h1
  ·rcases h2 with h2|h2|h2
   ·exact .inl (.inl (.inl ⟨b,h1,.inl (.inl h2)⟩))
   ·exact .inl (.inl (.inl ⟨b,h1,.inl (.inr h2)⟩))
   exact .inl (.inl (.inl ⟨b,h1,.inr (hbi j hj h2.1 h2.2)⟩))
  have h1':=hbi i Zo h1.1 h1.2;rcases h2 with h2|h2|h2
  ·exact .inl (.inr ⟨b,h2,h1'⟩)
  ·exact .inl (.inl (.inr ⟨b,h2,.inr h1'⟩))
  have:=R.next_mono j (i+1) Zo Zo;omega
 rcases h2 with h2|h2
 ·exact .inl (.inl (.inr ⟨b,h2,.inl h1⟩))
 exact .inr ⟨b,h1,hbi j hj h2.1 h2.2⟩
def DSpec.ordered {C:Cfg}{ops:Array Oper}{s:St}{acc':List (Nat×Foot)}{K:Out→St→Prop}{m:Nat}{S:Nat→St}{v:Nat→V}{f:Nat→Foot}(T:DSpec C P ops 0 s [] K m S v f acc') (R:TRun C P ops m S v f):Ordered C P ops m S v f:=by
 intro i j b hij hj hb;refine .inl ?_;have hbi:∀k,k<m→(S k).h.next≤b→b<(S (k+1)).h.next→(f k).lo≤b∧b<(f k).hi:=fun k hk h1 h2=>(T.step k (Yk _) hk).births b h1 h2;have nobirths:∀ {k:Nat},k<m→(f k).W=[]→(f k).lo=(f k).hi→¬touch S f k b:=by
  intro k hk hw hl ht;rcases ht with ht|ht
  ·rw[hw]at ht;cases ht
  have:=hbi k hk ht.1 ht.2;omega
 have hcl:clash (f i) (f j)=true:=by
  unfold clash;simp only[Yaj,List.any_eq_true,Yj,Yn,Ybl];rcases hb with⟨h1,h2⟩|⟨h1,h2⟩
  ·rcases h1 with h1|h1
   ·rcases h2 with h2|h2|h2
    ·exact .inl (.inl (.inl ⟨b,h1,.inl (.inl h2)⟩))
    ·exact .inl (.inl (.inl ⟨b,h1,.inl (.inr h2)⟩))
    exact .inl (.inl (.inl ⟨b,h1,.inr (hbi j hj h2.1 h2.2)⟩))
   have h1':=hbi i Zo h1.1 h1.2;rcases h2 with h2|h2|h2
   ·exact .inl (.inr ⟨b,h2,h1'⟩)
   ·exact .inl (.inl (.inr ⟨b,h2,.inr h1'⟩))
   have:=R.next_mono j (i+1) Zo Zo;omega
  rcases h2 with h2|h2
  ·exact .inl (.inl (.inr ⟨b,h2,.inl h1⟩))
  exact .inr ⟨b,h1,hbi j hj h2.1 h2.2⟩
 have hi':=T.feet i (Yk _) Zo;have hj':=T.feet j (Yk _) hj;rcases hi' with hi'|hi'
 ·obtain⟨h1,h2,h3⟩:=zn5 hi';rcases hb with⟨h4,_⟩|⟨h4,_⟩
  ·exact absurd h4 (nobirths Zo h2 h3)
  rw[h1]at h4;cases h4
 rcases hj' with hj'|hj'
 ·obtain⟨h1,h2,h3⟩:=zn5 hj';rcases hb with⟨_,h4|h4⟩|⟨_,h4⟩
  ·rw[h1]at h4;cases h4
  ·exact absurd h4 (nobirths hj h2 h3)
  exact absurd h4 (nobirths hj h2 h3)
 have hc:=T.chk;simp only[Ab.chk,Yaj]at hc;rcases hc with hc|hc
 ·have st:∀ {k:Nat},(k,f k)∈acc'→(f k).W=[]∧(f k).lo=(f k).hi:=by intro k h;have:=Yl.1 hc _ h;simpa[Foot.still,Yj,List.isEmpty_iff,beq_iff_eq]using this
  rcases hb with⟨h4,_⟩|⟨_,h4⟩
  ·exact absurd h4 (nobirths Zo (st hi').1 (st hi').2)
  exact absurd h4 (nobirths hj (st hj').1 (st hj').2)
 have h1:=Yl.1 (Yl.1 hc _ hi') _ hj';simp only[hij,Yb6,YbN,YaT,hcl]at h1;exact zd4 h1
structure DEnd(C:Cfg)(P:Program)(ops:Array Oper)(s:St)(K:Out→St→Prop)(m:Nat)(S:Nat→St)(v:Nat→V)(f:Nat→Foot):Prop where
 hm:m≤ops.size
 start:S 0=s
 step:∀k,k<m→StepOK C P ops k (S k) (S (k+1)) (v k) (f k)
 ord:Ordered C P ops m S v f
 fin:(m=ops.size∧K .norm (S m))∨(m<ops.size∧zg1 ops m=true∧∃pv,K (.panic pv) (S m)∧
  ∀(g0:G)(base:Nat)(D:Nat→Prop)(H0:Hp)(w0:World)(g:G)(a:Act)(w:World)(Q:Exit→Act→World→Prop)(next:Act→World→Prop),Entry C base D g0 H0 w0→
   Rel C base D g0 H0 w0 g (S m) a w→(∀e a w,Aft C base D g0 H0 w0 K e a w→Q e a w)→(∀o∈ops.toList,∀d,o.dst=some d→d<C.nt)→wpOp P ops Q m next a w)
def DSpec.toEnd {C:Cfg}{ops:Array Oper}{s:St}{acc':List (Nat×Foot)}{K:Out→St→Prop}{m:Nat}{S:Nat→St}{v:Nat→V}{f:Nat→Foot}(T:DSpec C P ops 0 s [] K m S v f acc') (hok:zco ops=true) (hk:∀b x,s.h.get b=some x→b<s.h.next) (hd:∀o∈ops.toList,∀d,o.dst=some d→d<C.nt):DEnd C P ops s K m S v f:=
 ⟨T.hm,T.start,fun k hk=>T.step k (Yk _) hk,T.ordered (T.trun hok hk hd),T.fin⟩
def filter_lt {α:Type}(p p':α→Bool):∀(l:List α),(∀x∈l,p' x=true→p x=true)→∀i∈l,p i=true→p' i=false→(l.filter p').length<(l.filter p).length
 |[],_,i,hi,_,_=>by cases hi
 |x::l,h,i,hi,h1,h2=>by
  have mono:∀(l:List α),(∀x∈l,p' x=true→p x=true)→(l.filter p').length≤(l.filter p).length:=by
   intro l;induction l with
   |nil=>intro _;exact Yc _
   |cons y l ih=>
    intro h;have:=ih fun x hx=>h x (Yaa _ hx);rw[YaN,YaN];by_cases hy:p' y=true
    ·rw[Yi hy,Yi (h y (YK ..) hy)];simp;exact this
    rw[Ye hy];split
    ·simp;omega
    exact this
  rw[YaN,YaN];rcases Yy.1 hi with rfl|hi
  ·rw[h2,h1];simp only[Y2,if_false,if_true,Yv];have:=mono l fun x hx=>h x (Yaa _ hx);omega
  have ih:=filter_lt p p' l (fun x hx=>h x (Yaa _ hx)) i hi h1 h2;by_cases hx:p' x=true
  ·rw[Yi hx,Yi (h x (YK ..) hx)];simp;exact ih
  rw[Ye hx];split
  ·simp;omega
  exact ih
def left(n:Nat)(listed:Array Bool):Nat:=((List.range n).filter fun k=> !listed.getD k true).length
def zpN {n:Nat}{listed:Array Bool}{i:Nat}(hi:i<n)(hs:listed.size=n)(hf:listed.getD i true=false):left n (listed.setIfInBounds i true)<left n listed:=by
 refine filter_lt _ _ (List.range n) (fun k hk h=>?_) i (by simpa using hi) (by simp[hf]) ?_
 ·by_cases hki:k=i
  ·subst hki;simp[hf]
  simpa[YU,YaE (Ne.symm hki)]using h
 simp[YU,hs,hi]
def draw_ok {C:Cfg}{ops:Array Oper}{s:St}{K:Out→St→Prop}{m:Nat}{S:Nat→St}{v:Nat→V}{f:Nat→Foot}{g0:G}{H0:Hp}{w0:World} (he:Entry C base D g0 H0 w0) (T:DEnd C P ops s K m S v f) (hok:zco ops=true) (hd:∀o∈ops.toList,∀d,o.dst=some d→d<C.nt) {gS:G} {aS:Act} {wS:World} (r:Rel C base D g0 H0 w0 gS s aS wS) (Q:Exit→Act→World→Prop) (hQ:∀e a w,Aft C base D g0 H0 w0 K e a w→Q e a w):wpAny P .any ops Q ops.size (Array.replicate ops.size false) aS wS:=by
 have R:TRun C P ops m S v f:=⟨T.hm,hok,T.step,by rw[T.start];exact r.post.inv.keys,hd⟩;have hord:=T.ord;have hst:=T.start;let WA:=(List.range m).flatMap fun k=>(f k).W
 have hWA:∀k,k<m→∀b∈(f k).W,b∈WA:=fun k hk b hb=>Yay.2 ⟨k,by simpa using hk,hb⟩;have hwok:wok C WA=true:=by refine Yl.2 fun b hb=>?_;obtain⟨k,hk,hb⟩:=Yay.1 hb;exact Yl.1 (T.step k (by simpa using hk)).wok b hb
 have final:∀ {L:Nat→Prop} {g:G} {a:Act} {w:World},SInv C ops m S f gS base wS WA L g a w→(∀k,k<m→L k)→Rel C base D g0 H0 w0 (g.cut (S m).h.next) (S m) a w:=by
  intro L g a w I hL;have cb:∀b,zdw S f m L b m:=fun b=>⟨Yc _,fun k hk _=>⟨fun _=>hk,fun _=>hL k hk⟩⟩;have ct:∀t,condt ops m L t m:=fun t=>⟨Yc _,fun k hk _=>⟨fun _=>hk,fun _=>hL k hk⟩⟩;refine⟨⟨I.glob,I.tmps,fun t u e=>I.env t m u (ct t) e⟩,I.defers,?_⟩;have hp:Post gS (g.cut (S m).h.next) base s.h (S m).h (fun b=>D b∨H0.next≤b) WA wS w:=by
   have hnext:s.h.next≤(S m).h.next:=by have:=R.next_mono m 0 (Yk _) (Yc _);rw[hst]at this;exact this
   refine⟨?_,?_,?_,I.newphi,I.frame,I.size,I.os,I.tape,I.output,?_,hnext⟩
   ·exact⟨fun b U e=>G.cut_some.2 ⟨Yu (r.post.inv.dom b U e).1 hnext,I.le.1 b U e⟩,I.le.2⟩
   ·refine⟨I.frz,fun b U e=>⟨(G.cut_some.1 e).1,(I.dom b U (G.cut_some.1 e).2).2⟩,R.keysAt m (Yc _),fun b x _ e=>?_,fun b b' x x' U U' _ _ e e' m1 m2 ec=>?_,Yw I.base I.size⟩
    ·obtain⟨U,o,e1,e2,e3,e4⟩:=I.cont b m x (cb b) e;exact⟨U,o,G.cut_some.2 ⟨R.keysAt m (Yc _) b x e,e1⟩,e2,e3,e4⟩
    exact I.inj b b' m m x x' U U' (cb b) (cb b') e e' (G.cut_some.1 m1).2 (G.cut_some.1 m2).2 ec
   ·intro b U e;have:=I.newmu b U (G.cut_some.1 e).2;rw[hst]at this;exact this
   intro b hb hn;rw[←hst];refine R.same b m 0 (Yk _) (Yc _) (by rw[hst];exact hb) fun k _ hk ht=>?_;rcases ht with ht|ht
   ·exact hn (hWA k hk b ht)
   have:=R.next_mono k 0 (Yk _) Zo;rw[hst]at this;omega
  exact r.step he hp hwok
 have key:∀(fuel:Nat)(listed:Array Bool)(g:G)(a:Act)(w:World),listed.size=ops.size→(∀k,listed.getD k false=true→k<m)→Closed ops (fun k=>listed.getD k false=true)→
  SInv C ops m S f gS base wS WA (fun k=>listed.getD k false=true) g a w→left ops.size listed≤fuel→wpAny P .any ops Q fuel listed a w:=by
  have getD_tf:∀(listed:Array Bool)(k:Nat),k<listed.size→listed.getD k true=listed.getD k false:=by intro l k hk;simp[YU,hk]
  intro fuel
  induction fuel with
  |zero=>
   intro listed g a w hs hm hcl I hle
   have hall:∀k,k<ops.size→listed.getD k false=true:=by
    intro k hk;cases e:listed.getD k false with
    |true=>rfl
    |false=>have:left ops.size (listed.setIfInBounds k true)<left ops.size listed:=zpN hk hs (by rw[getD_tf listed k Zo];exact e);omega
   have hmn:m=ops.size:=by
    rcases T.fin with⟨h,_⟩|⟨h,_⟩
    ·exact h
    have:=hm m (hall m h);omega
   refine⟨?_,?_⟩
   ·unfold Region.ready;rw[List.filter_eq_nil_iff];intro i hi;have hi':i<ops.size:=by simpa using hi
    simp[getD_tf listed i Zo,hall i hi']
   ·rcases T.fin with⟨_,hK⟩|⟨h,_⟩
    ·exact hQ _ _ _ ⟨.norm,S m,_,hK,trivial,final I fun k hk=>hall k (by have:=T.hm;omega)⟩
    omega
  |succ fuel ih=>
   intro listed g a w hs hm hcl I hle
   have rdy:∀i,i∈Region.ready .any ops listed↔i<ops.size∧listed.getD i false=false∧∀o,ops[i]? =some o→∀e∈o.after.toList,Region.binds .any e=true→listed.getD e.on false=true:=by
    intro i;unfold Region.ready;rw[YaH];simp only[YbF,Yj,YaV];constructor
    ·rintro⟨h1,h2,h3⟩;refine⟨h1,by rw[←getD_tf listed i Zo];exact h2,fun o ho e he hb=>?_⟩;rw[ho]at h3;simp only[Yap,YbJ]at h3;rw[←Array.all_toList]at h3;have:=Yl.1 h3 e he;simpa[hb]using this
    rintro⟨h1,h2,h3⟩;refine⟨h1,by rw[getD_tf listed i Zo];exact h2,?_⟩;have ho:ops[i]? =some ops[i]:=by simp[h1]
    rw[ho];simp only[Yap,YbJ];rw[←Array.all_toList];refine Yl.2 fun e he=>?_;cases hb:Region.binds .any e with
    |false=>rfl
    |true=>simpa using h3 _ ho e he hb
   refine⟨fun hnil=>?_,fun i hi=>?_⟩
   ·have hall:∀k,k<ops.size→listed.getD k false=true:=by
     intro k;induction k using Nat.strongRecOn with
     |_ k ihk=>
      intro hk;cases e:listed.getD k false with
      |true=>rfl
      |false=>exfalso;have:k∈Region.ready .any ops listed:=(rdy k).2 ⟨hk,e,fun o ho ed hed hb=>by have:=zhy hok ho hed hb;exact ihk ed.on this Zo⟩;rw[hnil]at this;cases this
    rcases T.fin with⟨hmn,hK⟩|⟨h,_⟩
    ·exact hQ _ _ _ ⟨.norm,S m,_,hK,trivial,final I fun k hk=>hall k (by have:=T.hm;omega)⟩
    have:=hm m (hall m h);omega
   ·obtain⟨hi1,hi2,hi3⟩:=(rdy i).1 hi;have hbef:∀k j,Bef ops k j→j=i→listed.getD k false=true:=by
     intro k j hb;induction hb with
     |edge ho he hbd=>rintro rfl;exact hi3 _ ho _ he hbd
     |trans h1 h2 ih1 ih2=>rintro rfl;exact hcl _ _ (ih2 rfl) h1
    rcases Ya5 i m with him|him|him
    ·refine SInv.next R hord hWA I hcl (fun k hk=>hm k hk) him (by simp[hi2]) (fun k hb=>hbef k i hb rfl) _ ?_ Q;intro g' a' w' I';have hset:∀k,(listed.setIfInBounds i true).getD k false=true↔(listed.getD k false=true∨k=i):=by
      intro k;by_cases hk:k=i
      ·subst hk;simp[YU,hs,hi1]
      simp[YU,YaE (Ne.symm hk),hk]
     refine ih _ g' a' w' (by simpa using hs) (fun k hk=>?_) (fun k j hj hb=>?_) ?_ ?_
     ·rcases(hset k).1 hk with h|h
      ·exact hm k h
      omega
     ·refine(hset k).2 (.inl ?_);rcases(hset j).1 hj with h|h
      ·exact hcl k j h hb
      exact hbef k j hb h
     ·have:(fun k=>(listed.setIfInBounds i true).getD k false=true)=(fun k=>listed.getD k false=true∨k=i):=funext fun k=>propext (hset k);rw[this];exact I'
     have:=zpN hi1 hs (by rw[getD_tf listed i Zo];exact hi2);omega
    ·subst him;rcases T.fin with⟨h,_⟩|⟨_,hp,pv,hK,hpan⟩
     ·omega
     simp only[zg1,Yj]at hp;refine hpan g0 base D H0 w0 _ a w Q _ he (final I fun k hk=>?_) hQ hd;exact hbef k i (zd4 (Yl.1 hp.1 k (by simpa using hk))) rfl
    exfalso;rcases T.fin with⟨h,_⟩|⟨_,hp,_⟩
    ·omega
    simp only[zg1,Yj]at hp;have h1:=Yl.1 hp.2 i (by simpa using hi1);simp only[Yaj,Yn]at h1;have h2:Bef ops m i:=zd4 (h1.resolve_left Zo);have:=hm m (hbef m i h2 rfl);omega
 have hnone:∀k,(Array.replicate ops.size false).getD k false=false:=by intro k;simp[YU,Array.getElem?_replicate];split<;>rfl
 refine key ops.size _ gS aS wS Zs (fun k hk=>by rw[hnone]at hk;cases hk) (fun k j hj _=>by have hj':=hj;simp only[hnone]at hj';cases hj') ?_ ?_
 ·have hL:(fun k=>(Array.replicate ops.size false).getD k false=true)=fun _=>False:=funext fun k=>by rw[hnone];simp
  rw[hL];refine SInv.start R ?_ (by rw[hst];exact r.env) r.defers;rw[hst];exact⟨r.post.inv.frz,r.post.inv.dom,r.post.inv.keys,fun b x _=>r.post.inv.cont b x (he.inD b),fun b b' x x' U U' _ _=>r.post.inv.inj b b' x x' U U' (he.inD b) (he.inD b'),r.post.inv.base⟩
 unfold left;exact Yw (List.length_filter_le _ _) Zs
end
end Go.Ab

namespace Go.Ab
inductive Pure:V→Prop
 |bool (b):Pure (.bool b)
 |int (k n):Pure (.int k n)
 |str (s):Pure (.str s)
 |nilS:Pure .nilS
 |fs {cs n} (h:∀x∈cs,Pure x):Pure (.fs cs n)
 |nilP:Pure .nilP
 |fp {cs} (h:∀x∈cs,Pure x):Pure (.fp cs)
 |nilM:Pure .nilM
 |fn {f cs} (h:∀x∈cs,Pure x):Pure (.fn f cs)
 |nilF:Pure .nilF
 |ifc {t v} (h:Pure v):Pure (.ifc t v)
 |nilI:Pure .nilI
 |agg {cs} (h:∀x∈cs,Pure x):Pure (.agg cs)
 |tup {cs} (h:∀x∈cs,Pure x):Pure (.tup cs)
 |any:Pure .any
 |opt {b v} (h:Pure v):Pure (.opt b v)
def zM(b):Pure (.bool b)↔True:=⟨fun _=>trivial,fun _=>.bool b⟩
def zaz(k n):Pure (.int k n)↔True:=⟨fun _=>trivial,fun _=>.int k n⟩
def zO(s):Pure (.str s)↔True:=⟨fun _=>trivial,fun _=>.str s⟩
def zdC:Pure .nilS↔True:=⟨fun _=>trivial,fun _=>.nilS⟩
def zgX:Pure .nilP↔True:=⟨fun _=>trivial,fun _=>.nilP⟩
def zgY:Pure .nilI↔True:=⟨fun _=>trivial,fun _=>.nilI⟩
def zfu(cs n):Pure (.fs cs n)↔∀x∈cs,Pure x:=⟨fun h=>by cases h;assumption,.fs⟩
def zgZ(cs):Pure (.fp cs)↔∀x∈cs,Pure x:=⟨fun h=>by cases h;assumption,.fp⟩
def zcx(f cs):Pure (.fn f cs)↔∀x∈cs,Pure x:=⟨fun h=>by cases h;assumption,.fn⟩
def pure_ifc(t v):Pure (.ifc t v)↔Pure v:=⟨fun h=>by cases h;assumption,.ifc⟩
def zac(cs):Pure (.agg cs)↔∀x∈cs,Pure x:=⟨fun h=>by cases h;assumption,.agg⟩
def zga(cs):Pure (.tup cs)↔∀x∈cs,Pure x:=⟨fun h=>by cases h;assumption,.tup⟩
def VRel.pure {g g':G}{v:V}{vc:Value}(hp:∀c a,g.phi c=some a→g'.phi c=some a)(r:VRel g v vc)(h:Pure v):VRel g' v vc:=by
 have mem:∀ {l:ZA} {i:Nat} {x:V},l[i]? =some x→x∈l:=fun e=>YV e;induction r with
 |bool b=>exact .bool b
 |int k n=>exact .int k n
 |str hs=>exact .str hs
 |nilS=>exact .nilS
 |sl hm hl ho hk=>cases h
 |fs vs hf hl h1 _ ih=>exact .fs vs (hp _ _ hf) hl h1 fun i x e=>ih i x e ((zfu _ _).1 h x (mem e))
 |fs0 ha=>exact .fs0 ha
 |nilP=>exact .nilP
 |ptr hm=>cases h
 |fp vs hf h1 _ ih=>exact .fp vs (hp _ _ hf) h1 fun i x e=>ih i x e ((zgZ _).1 h x (mem e))
 |nilM=>exact .nilM
 |map hm=>cases h
 |fn vs hs h1 _ ih=>exact .fn vs hs h1 fun i x e=>ih i x e ((zcx _ _).1 h x (mem e))
 |bnd vs hs h1 _ ih=>cases h
 |nilF=>exact .nilF
 |ifc _ ih=>exact .ifc (ih ((pure_ifc _ _).1 h))
 |nilI=>exact .nilI
 |agg vs hs h1 _ ih=>exact .agg vs hs h1 fun i x e=>ih i x e ((zac _).1 h x (mem e))
 |tup vs hs h1 _ ih=>exact .tup vs hs h1 fun i x e=>ih i x e ((zga _).1 h x (mem e))
 |any v=>exact .any v
 |opt _ h2 ih=>cases h with|opt h=>exact .opt (fun e=>ih e h) h2
def LRel(R:V→V→Prop)(l l':ZA):Prop:=l.length=l'.length∧∀(i:Nat)(x y:V),l[i]? =some x→l'[i]? =some y→R x y
inductive Rn(π:Nat→Nat)(N:Nat→Prop):V→V→Prop
 |same {v} (h:Pure v):Rn π N v v
 |any {v}:Rn π N .any v
 |nil0:Rn π N (.fs [] 0) .nilS
 |sl {b off len sz kc kc'} (hb:N b) (hk:kc'=none∨kc'=kc):Rn π N (.sl b off len sz kc') (.sl (π b) off len sz kc)
 |ptr {b off} (hb:N b):Rn π N (.ptr b off) (.ptr (π b) off)
 |map {b} (hb:N b):Rn π N (.map b) (.map (π b))
 |fn {f cs cs'} (hl:cs'.length=cs.length) (h:∀(i:Nat)(x y:V),cs'[i]? =some x→cs[i]? =some y→Rn π N x y):Rn π N (.fn f cs') (.fn f cs)
 |bnd {f cs cs'} (hl:cs'.length=cs.length) (h:∀(i:Nat)(x y:V),cs'[i]? =some x→cs[i]? =some y→Rn π N x y):Rn π N (.bnd f cs') (.bnd f cs)
 |ifc {t v v'} (h:Rn π N v' v):Rn π N (.ifc t v') (.ifc t v)
 |agg {cs cs'} (hl:cs'.length=cs.length) (h:∀(i:Nat)(x y:V),cs'[i]? =some x→cs[i]? =some y→Rn π N x y):Rn π N (.agg cs') (.agg cs)
 |tup {cs cs'} (hl:cs'.length=cs.length) (h:∀(i:Nat)(x y:V),cs'[i]? =some x→cs[i]? =some y→Rn π N x y):Rn π N (.tup cs') (.tup cs)
def VRel.rn {g g':G}{π:Nat→Nat}{N:Nat→Prop}(hp:∀c a,g.phi c=some a→g'.phi c=some a)(hm:∀b,N b→g'.mu b=g.mu (π b)){v v':V}(h:Rn π N v' v):∀ {vc:Value},VRel g v vc→VRel g' v' vc:=by
 induction h with
 |same h=>intro vc r;exact r.pure hp h
 |any=>intro vc r;exact .any _
 |nil0=>intro vc r;cases r;exact .fs0 fun _=>rfl
 |sl hb hk=>
  intro vc r;obtain⟨T,o,cap,e,hl,ho,hc,rfl⟩:=r.inv_sl;refine .sl (by rw[hm _ hb];exact e) hl ho fun k ek=>?_;rcases hk with rfl|rfl
  ·cases ek
  exact hc k ek
 |ptr hb=>intro vc r;obtain⟨T,e,rfl⟩:=r.inv_ptr;exact .ptr (by rw[hm _ hb];exact e)
 |map hb=>
  intro vc r;cases r with
  |map e=>exact .map (by rw[hm _ hb];exact e)
 |fn hl _ ih=>intro vc r;obtain⟨arr,rfl,hs,p⟩:=r.inv_fn;refine Xn Zo fun i x hx=>?_;have hlt:=(Ys.1 hx).1;obtain⟨u,hu,ru⟩:=p i _ (Yb Zo);exact⟨u,hu,ih i x _ hx (Yb Zo) ru⟩
 |bnd hl _ ih=>intro vc r;obtain⟨arr,rfl,hs,p⟩:=r.inv_bnd;refine Xv Zo fun i x hx=>?_;have hlt:=(Ys.1 hx).1;obtain⟨u,hu,ru⟩:=p i _ (Yb Zo);exact⟨u,hu,ih i x _ hx (Yb Zo) ru⟩
 |ifc _ ih=>
  intro vc r;cases r with
  |ifc hv=>exact .ifc (ih hv)
 |agg hl _ ih=>intro vc r;obtain⟨arr,rfl,hs,p⟩:=r.inv_agg;refine Xj Zo fun i x hx=>?_;have hlt:=(Ys.1 hx).1;obtain⟨u,hu,ru⟩:=p i _ (Yb Zo);exact⟨u,hu,ih i x _ hx (Yb Zo) ru⟩
 |tup hl _ ih=>intro vc r;obtain⟨arr,rfl,hs,p⟩:=r.inv_tup;refine Xf Zo fun i x hx=>?_;have hlt:=(Ys.1 hx).1;obtain⟨u,hu,ru⟩:=p i _ (Yb Zo);exact⟨u,hu,ih i x _ hx (Yb Zo) ru⟩
def PW.rn {g g':G}{π:Nat→Nat}{N:Nat→Prop}(hp:∀c a,g.phi c=some a→g'.phi c=some a)(hm:∀b,N b→g'.mu b=g.mu (π b)){l l':ZA}(h:LRel (Rn π N) l' l){get:Nat→Option Value} (p:PW g l get):PW g' l' get:=by intro i x hx;have hlt:=(Ys.1 hx).1;have hll:=h.1;obtain⟨u,hu,ru⟩:=p i _ (Yb Zo);exact⟨u,hu,ru.rn hp hm (h.2 i x _ hx (Yb Zo))⟩
inductive RnB(π:Nat→Nat)(N:Nat→Prop):Blk→Blk→Prop
 |cells {cs cs'} (h:LRel (Rn π N) cs' cs):RnB π N (.cells cs') (.cells cs)
 |mp {es es' clock} (hb:es'.map (·.1)=es.map (·.1)) (hk:LRel (Rn π N) (es'.map (·.2.1)) (es.map (·.2.1))) (hv:LRel (Rn π N) (es'.map (·.2.2)) (es.map (·.2.2))):RnB π N (.mp es' clock) (.mp es clock)
 |ty {t cs cs'} (h:LRel (Rn π N) cs' cs):RnB π N (.ty t cs') (.ty t cs)
 |si {s pos}:RnB π N (.si s pos) (.si s pos)
 |ro {cs cs'} (h:LRel (Rn π N) cs' cs):RnB π N (.ro cs') (.ro cs)
 |it {m bs left since last cur} (h:N m):RnB π N (.it (some m) bs left since last cur) (.it (some (π m)) bs left since last cur)
def BlkRel.rn {g g':G}{π:Nat→Nat}{N:Nat→Prop}(hp:∀c a,g.phi c=some a→g'.phi c=some a)(hm:∀b,N b→g'.mu b=g.mu (π b)){x x':Blk}(h:RnB π N x' x){T:Tgt}{o:Obj} (r:BlkRel g x T o):BlkRel g' x' T o:=by
 cases h with
 |cells h=>
  cases r with
  |cells hs hb p=>exact .cells hs (by rw[h.1];exact hb) (p.rn hp hm h)
 |mp hb hk hv=>
  cases r with
  |mp hs pb pk pv=>exact .mp (by have:=hk.1;simp at this;omega) (pb.trans hb.symm) (pk.rn hp hm hk) (pv.rn hp hm hv)
 |ty h=>
  cases r with
  |ty hs hb hsh hmx p=>exact .ty hs (by rw[h.1];exact hb) hsh hmx (p.rn hp hm h)
 |si=>
  cases r with
  |si hsh h=>exact .si hsh h
 |ro h=>
  cases r with
  |ro hs hb p=>exact .ro hs (by rw[h.1];exact hb) (p.rn hp hm h)
 |it h=>
  cases r with
  |it hsh hmu hsn hcur=>exact .it hsh ((hm _ h).trans hmu) hsn hcur
structure SubP(nx:Nat)(Wm:ZN)(π:Nat→Nat)(s s':St):Prop where
 env:∀t v',s'.env.lookup t=some v'→v'=.any∨∃v,s.env.lookup t=some v∧Rn π (· <s'.h.next) v' v
 heap:∀b x',s'.h.get b=some x'→b<s'.h.next∧∃x,s.h.get (π b)=some x∧RnB π (· <s'.h.next) x' x
 own:∀b,if b<nx then π b=b else(nx≤π b∨π b∈Wm)
 inj:∀b b' x x',s'.h.get b=some x→s'.h.get b'=some x'→π b=π b'→b=b'
 elder:∀b,b<nx→b∉Wm→s'.h.get b=s.h.get b
 next:nx≤s'.h.next
def Sub(C:Cfg)(s s':St):Prop:=∃π,SubP C.nx C.Wm π s s'
def Rel.sub {C:Cfg}{base:Nat}{D:Nat→Prop}{g0:G}{H0:Hp}{w0:World}{g:G}{s s':St}{a:Act}{w:World}(he:Entry C base D g0 H0 w0)(r:Rel C base D g0 H0 w0 g s a w)(h:Sub C s s'):∃g',Rel C base D g0 H0 w0 g' s' a w:=by
 obtain⟨π,h⟩:=h;let g':G:=⟨fun b=>if b<s'.h.next then g.mu (π b)else none,g.phi⟩
 have hp:∀c a,g.phi c=some a→g'.phi c=some a:=fun _ _ e=>e;have hm:∀b,b<s'.h.next→g'.mu b=g.mu (π b):=fun b hb=>Yi hb;have hm':∀b T,g'.mu b=some T→b<s'.h.next∧g.mu (π b)=some T:=by
  intro b T e;simp only[g']at e;split at e
  ·rename_i hb;exact⟨hb,e⟩
  cases e
 have own:∀b,(b<C.nx→π b=b)∧(C.nx≤b→C.nx≤π b∨π b∈C.Wm):=fun b=>by
  have:=h.own b;split at this
  ·exact⟨fun _=>this,fun _=>Zo⟩
  exact⟨fun _=>Zo,fun _=>this⟩
 have pnx:=he.nx;refine⟨g',⟨⟨r.env.glob.mono hp,r.env.size,fun t v' e=>?_⟩,r.defers,?_⟩⟩
 ·rcases h.env t v' e with rfl|⟨v,ev,rn⟩
  ·exact .any _
  exact(r.env.rel t v ev).rn hp hm rn
 refine⟨?_,?_,?_,r.post.newphi,r.post.frame,r.post.size,r.post.os,r.post.tape,r.post.output,?_,?_⟩
 ·refine⟨fun b T e=>?_,r.post.le.2⟩;have hb:=(he.inv.dom b T e).1;rw[hm b (by have:=h.next;omega),(own b).1 Zo];exact r.post.le.1 b T e
 ·refine⟨r.post.inv.frz,fun b T e=>?_,fun b x e=>(h.heap b x e).1,fun b x _ e=>?_,fun b b' x x' T T' _ _ e e' m m' ec=>?_,r.post.inv.base⟩
  ·obtain⟨h1,h2⟩:=hm' b T e;exact⟨h1,(r.post.inv.dom _ T h2).2⟩
  ·obtain⟨hb,y,hy,rn⟩:=h.heap b x e;obtain⟨T,o,e1,e2,e3,e4⟩:=r.post.inv.cont _ y (he.inD _) hy;exact⟨T,o,by rw[hm b hb];exact e1,e2,e3,e4.rn hp hm rn⟩
  obtain⟨hb,y,hy,_⟩:=h.heap b x e;obtain⟨hb',y',hy',_⟩:=h.heap b' x' e';have:=r.post.inv.inj _ _ y y' T T' (he.inD _) (he.inD _) hy hy' (hm' b T m).2 (hm' b' T' m').2 ec;exact h.inj b b' x x' e e' this
 ·intro b T e;obtain⟨hb,e⟩:=hm' b T e;rcases YaJ b C.nx with hlt|hge
  ·rw[(own b).1 hlt]at e;exact r.post.newmu b T e
  rcases(own b).2 hge with h2|h2
  ·rcases r.post.newmu _ T e with e0|⟨_,hc⟩
   ·have:=(he.inv.dom _ T e0).1;omega
   exact .inr ⟨Zo,hc⟩
  rcases r.post.newmu _ T e with e0|⟨_,hc⟩
  ·exact .inr ⟨Zo,.inr ⟨π b,h2,T,e0,rfl⟩⟩
  exact .inr ⟨Zo,hc⟩
 ·intro b hb hn;rw[h.elder b Zo hn];exact r.post.aframe b hb hn
 have:=h.next;omega
end Go.Ab

namespace Go.Ab
structure LK where
 s:St
 v:V
 f:Foot
def LateK(r:SR)(h:Hp)(v:V)(f:Foot):Prop:=
 match r with
 | .ok _ pre v' h' f'=>pre∧v'=v∧h'=h∧f'=f
 |_=>False
def zqD(C:Cfg)(P:Program)(op:Op)(r:LK)(h:Hp)(f:Foot):Prop:=
 match f.W,h.get (f.W.headD 0)with
 |[b],some x=>h.next=r.s.h.next∧LateK (step1 C P r.s.env op (r.s.h.put b x)) (r.s.h.put b x) r.v r.f
 |_,_=>False
def isLk:Op→Bool
 | .lookup _ _ _ false=>true
 |_=>false
def isEn:Op→Bool
 | .mapEntry .. =>true
 |_=>false
def zh0:List Oper→Nat→Option Nat
 |[],_=>none
 |o::os,j=>match isEn o.op with|true=>some j|false=>zh0 os (j+1)
def zh1:List Oper→Nat→Option Op→Nat→Option (Nat×Op×Nat)
 |[],_,_,_=>none
 |o::os,i,_,j=>match isLk o.op with|true=>(match Nat.blt i j with|true=>some (i,o.op,j)|false=>none)|false=>zh1 os (i+1) none j
def zeY(os:List Oper):Option (Nat×Op×Nat):=
 match zh0 os 0 with
 |none=>none
 |some j=>zh1 os 0 none j
def ziI:∀ {os:List Oper} {i:Nat} {x:Option Op} {j:Nat} {q:Nat×Op×Nat},zh1 os i x j=some q→i≤q.1∧q.1<q.2.2∧q.2.2=j∧∃o,os[q.1-i]? =some o∧o.op=q.2.1
 |[],_,_,_,_,h=>by cases h
 |o::os,i,x,j,q,h=>by
  unfold zh1 at h;split at h
  ·split at h
   ·rename_i hb;cases h;exact⟨Yc _,by simpa using hb,rfl,o,Zs,rfl⟩
   cases h
  obtain⟨h1,h2,h3,o',h4,h5⟩:=ziI h;refine⟨Zo,h2,h3,o',?_,h5⟩;rw[show q.1-i=(q.1-(i+1))+1 by omega];simpa using h4
def chkX(ops:Array Oper)(i0 j0:Nat)(feet:List (Nat×Foot)):Bool:=
 feet.all fun p=>feet.all fun q=> !decide (p.1<q.1)|| !clash p.2 q.2||(Nat.beq p.1 i0&&Nat.beq q.1 j0)||ordB (masks ops) p.1 q.1
def zyR(C:Cfg)(P:Program)(ops:Array Oper)(i0:Nat)(op0:Op)(j0:Nat):List Oper→Nat→St→List (Nat×Foot)→Option LK→(Out→St→Prop)→Prop
 |[],_,s,acc,_,K=>chkX ops i0 j0 acc=true∧K .norm s
 |o::os,i,s,acc,r,K=>
  o.guard=none∧
  match step1 C P s.env o.op s.h with
  | .ok _ pre v h f=>pre∧wok C f.W=true∧(if i=i0 then f.W=[]∧h=s.h else True)∧(if i=j0 then(match r with|some r=>zqD C P op0 r h f|none=>False)else True)∧
   zyR C P ops i0 op0 j0 os (i+1) ((s.put o.dst v).hp h) (accF acc i f) (if i=i0 then some ⟨s,v,f⟩else r) K
  |_=>False
section
variable {P:Program}{C:Cfg}{ops:Array Oper}
def zil(hΓ:zfg P C){i:Nat}{o:Oper}{env:Env}{h h':Hp}{st:Bool}{pre:Prop}{v:V}{f:Foot}(ho:ops[i]? =some o)(hg:o.guard=none) (he:step1 C P env o.op h=.ok st pre v h' f) (hp:pre) (hw:wok C f.W=true):StepOK C P ops i ⟨env,h⟩ (((⟨env,h⟩:St).put o.dst v).hp h') v f:=by
 have sem:=zeM hΓ ops o env h;rw[he]at sem;have hst:StepSem P C.nt ops o env h st v h' f:=sem hp;refine⟨by rw[zp4 ho];rfl,hst.stat,hw,hst.births,?_⟩;intro o' ho' g base D w a next Q hI hO hD hn
 obtain rfl:=Yh (ho.symm.trans ho');exact zc3 ho (by unfold Region.wanted;rw[hg]) (hst.exec g base D w a next Q hI hO hD hn)
structure LSpec(C:Cfg)(P:Program)(ops:Array Oper)(i0:Nat)(op0:Op)(j0:Nat)(i:Nat)(s:St)(acc:List (Nat×Foot))(r:Option LK)(K:Out→St→Prop)(S:Nat→St)(v:Nat→V)(f:Nat→Foot)(acc':List (Nat×Foot)):Prop where
 start:S i=s
 step:∀k,i≤k→k<ops.size→StepOK C P ops k (S k) (S (k+1)) (v k) (f k)
 feet:∀k,i≤k→k<ops.size→(f k).idle=true∨(k,f k)∈acc'
 old:∀p∈acc,p∈acc'
 chk:chkX ops i0 j0 acc'=true
 fin:K .norm (S ops.size)
 here:i≤i0→i0<ops.size→(f i0).W=[]∧(S (i0+1)).h=(S i0).h∧(S (i0+1)).env=((S i0).put (zfC ops i0) (v i0)).env
 guard:∀k o,i≤k→ops[k]? =some o→o.guard=none
 late:i≤j0→j0<ops.size→i0<j0→∃lk,(if i≤i0 then lk=⟨S i0,v i0,f i0⟩else r=some lk)∧zqD C P op0 lk (S (j0+1)).h (f j0)
def zi2 {K:Out→St→Prop}(hΓ:zfg P C){i0:Nat}{op0:Op}{j0:Nat}:∀(os:List Oper)(i:Nat),ops.toList.drop i=os→i≤ops.size→∀(s:St)(acc:List (Nat×Foot))(r:Option LK),zyR C P ops i0 op0 j0 os i s acc r K→∃S v f acc',LSpec C P ops i0 op0 j0 i s acc r K S v f acc'
 |[],i,hd,hi,s,acc,r,h=>by
  have hn:i=ops.size:=by
   have:ops.toList.length≤i:=by simpa using hd
   simp at this;omega
  subst hn;refine⟨fun _=>s,fun _=>.any,fun _=>⟨[],[],0,0⟩,acc,rfl,fun k h1 h2=>Zo,fun k h1 h2=>Zo,fun p hp=>hp,h.1,h.2,fun h1 h2=>Zo,fun k o h1 ho=>?_,fun h1 h2=>Zo⟩;have:=(YA.1 ho).1;omega
 |o::os,i,hd,hi,s,acc,r,h=>by
  have ho:ops[i]? =some o:=by
   have:(ops.toList.drop i)[0]? =some o:=by rw[hd];rfl
   rw[Y8]at this;rw[←YF];simpa using this
  have hilt:i<ops.size:=(YA.1 ho).1;have hos:ops.toList.drop (i+1)=os:=by rw[←YaR,hd];rfl
  obtain⟨hg,h⟩:=h;split at h;rotate_left;·exact h.elim
  rename_i st pre vi h' fi he;obtain⟨hp,hw,ha,hb,h⟩:=h;obtain⟨S,v,f,acc',T⟩:=zi2 hΓ os (i+1) hos hilt _ _ _ h;have hst:=zil hΓ ho hg he hp hw;obtain⟨S',hSi,hS⟩:∃S':Nat→St,S' i=s∧∀k,i<k→S' k=S k:=⟨fun k=>if k≤i then s else S k,Yi (Yc _),fun k hk=>Ye Zo⟩;obtain⟨v',hvi,hv⟩:∃v':Nat→V,v' i=vi∧∀k,i<k→v' k=v k:=⟨fun k=>if k=i then vi else v k,Yi rfl,fun k hk=>Ye Zo⟩;obtain⟨f',hfi,hf⟩:∃f':Nat→Foot,f' i=fi∧∀k,i<k→f' k=f k:=⟨fun k=>if k=i then fi else f k,Yi rfl,fun k hk=>Ye Zo⟩;refine⟨S',v',f',acc',hSi,fun k h1 h2=>?_,fun k h1 h2=>?_,fun p hp=>T.old p ?_,T.chk,?_,fun h1 h2=>?_,fun k ok h1 hk=>?_,fun h1 h2 h3=>?_⟩
  ·by_cases hk:k=i
   ·subst hk;rw[hS (k+1) Zo,hSi,hvi,hfi,T.start];exact hst
   rw[hS k Zo,hS (k+1) Zo,hv k Zo,hf k Zo];exact T.step k Zo h2
  ·by_cases hk:k=i
   ·subst hk;rw[hfi];by_cases hid:fi.idle=true
    ·exact .inl hid
    refine .inr (T.old _ ?_);unfold accF;rw[Ye hid];exact YK ..
   rw[hf k Zo];exact T.feet k Zo h2
  ·unfold accF;split
   ·exact hp
   exact Yaa _ hp
  ·rw[hS ops.size Zo];exact T.fin
  ·by_cases hk:i0=i
   ·subst hk;rw[Yi rfl]at ha;rw[hS (i0+1) Zo,hSi,hfi,hvi,T.start];refine⟨ha.1,?_,?_⟩
    ·show h'=s.h;exact ha.2
    rw[zp4 ho];rfl
   rw[hS i0 Zo,hS (i0+1) Zo,hf i0 Zo,hv i0 Zo];exact T.here Zo h2
  ·by_cases hk':k=i
   ·subst hk';obtain rfl:=Yh (ho.symm.trans hk);exact hg
   exact T.guard k ok Zo hk
  by_cases hj:j0=i
  ·subst hj;rw[Yi rfl]at hb;split at hb
   ·rename_i lk;refine⟨lk,?_,?_⟩
    ·rw[Ye Zo]
    rw[hS (j0+1) Zo,hfi,T.start];exact hb
   exact hb.elim
  obtain⟨lk,k1,k2⟩:=T.late Zo h2 h3;rw[hS (j0+1) Zo,hf j0 Zo];refine⟨lk,?_,k2⟩;by_cases hii:i0=i
  ·subst hii;rw[Yi (Yc _),hSi,hvi,hfi];rw[Ye Zo,Yi rfl]at k1;exact(Yh k1).symm
  by_cases hle:i≤i0
  ·rw[Yi hle,hS i0 Zo,hv i0 Zo,hf i0 Zo];rwa [Yi Zo]at k1
  rw[Ye hle];rwa [Ye Zo,Ye (fun e=>hii e.symm)]at k1
def LSpec.toEnd {K:Out→St→Prop}(hΓ:zfg P C){i0:Nat}{op0:Op}{j0:Nat}{s:St}{S:Nat→St}{v:Nat→V}{f:Nat→Foot}{acc':List (Nat×Foot)}(T:LSpec C P ops i0 op0 j0 0 s [] none K S v f acc') (hok:zco ops=true) (hk:∀b x,s.h.get b=some x→b<s.h.next) (hd:∀o∈ops.toList,∀d,o.dst=some d→d<C.nt) (hij0:i0<j0) {o0:Oper} (ho0:ops[i0]? =some o0) (hop0:o0.op=op0):DEnd C P ops s K ops.size S v f:=by
 have R:TRun C P ops ops.size S v f:=⟨Yc _,hok,fun k hk=>T.step k (Yk _) hk,by rw[T.start];exact hk,hd⟩;have ord:∀i j b,i<j→j<ops.size→((touch S f i b∧(b∈(f j).R∨touch S f j b))∨(b∈(f i).R∧touch S f j b))→(i=i0∧j=j0)∨Bef ops i j:=by
  intro i j b hij hj hb;have hcl:=clash_of R hij hj hb;have noidle:∀ {k:Nat},k<ops.size→(f k).idle=true→¬touch S f k b∧b∉(f k).R:=by
   intro k hk h;obtain⟨h1,h2,h3⟩:=zn5 h;refine⟨?_,by rw[h1];simp⟩;rintro(ht|ht)
   ·rw[h2]at ht;cases ht
   have:=(R.step k hk).births b ht.1 ht.2;omega
  have fi:(i,f i)∈acc':=by
   rcases T.feet i (Yk _) (by omega)with h|h
   ·have:=noidle Zo h;rcases hb with⟨h1,_⟩|⟨h1,_⟩
    ·exact absurd h1 this.1
    exact absurd h1 this.2
   exact h
  have fj:(j,f j)∈acc':=by
   rcases T.feet j (Yk _) hj with h|h
   ·have:=noidle hj h;rcases hb with⟨_,h1|h1⟩|⟨_,h1⟩
    ·exact absurd h1 this.2
    ·exact absurd h1 this.1
    exact absurd h1 this.1
   exact h
  have h1:=Yl.1 (Yl.1 T.chk _ fi) _ fj;simp only[hij,Yb6,YbN,YaT,hcl,Yaj,Yj,Ycl]at h1;exact h1.imp id zd4
 refine⟨Yc _,T.start,fun k hk=>T.step k (Yk _) hk,fun i j b hij hj hb=>?_,.inl ⟨rfl,T.fin⟩⟩;rcases ord i j b hij hj hb with⟨rfl,rfl⟩|h
 rotate_left;·exact .inl h
 refine .inr ?_;obtain⟨g1,g2,g3⟩:=T.here (Yk _) Zo;obtain⟨lk,l1,l2⟩:=T.late (Yk _) hj hij;rw[Yi (Yk _)]at l1;subst l1;unfold zqD at l2;split at l2;rotate_left;·exact l2.elim
 rename_i b0 x hW hx;obtain⟨hn,l2⟩:=l2;rw[hW]at hx;have hx':(S (j+1)).h.get b0=some x:=hx;have nt:∀b', ¬touch S f i b':=by
  rintro b' (ht|ht)
  ·rw[g1]at ht;cases ht
  rw[g2]at ht;omega
 have jt:∀b',touch S f j b'→b'=b0:=by
  rintro b' (ht|ht)
  ·rw[hW]at ht;simpa using ht
  have h2:=R.next_mono j i Zo Zo;have h3:(S (j+1)).h.next=(S i).h.next:=hn;omega
 have hbR:b∈(f i).R∧touch S f j b:=by
  rcases hb with⟨ht,_⟩|h
  ·exact absurd ht (nt b)
  exact h
 have hbb:=jt b hbR.2;subst hbb;refine⟨g1,g2,hn,⟨x,hx',?_⟩,fun k b' hk ht hbR' hik=>?_⟩
 ·unfold LateK at l2;split at l2;rotate_left;·exact l2.elim
  rename_i st pre v' h' f' he;obtain⟨hp,rfl,rfl,rfl⟩:=l2;rw[←hop0]at he;have hst:=zil (ops:=ops) hΓ ho0 (T.guard i o0 (Yk _) ho0) he hp (R.step i Zo).wok;have e5:(((⟨(S i).env,(S i).h.put b x⟩:St).put o0.dst (v i)).hp ((S i).h.put b x))=⟨(S (i+1)).env,(S i).h.put b x⟩:=by rw[g3,zp4 ho0];cases o0.dst<;>rfl
  rw[e5]at hst;exact hst
 rcases ord i k b' hik hk (.inr ⟨hbR',ht⟩)with⟨_,rfl⟩|h
 ·exact .inl ⟨rfl,jt b' ht⟩
 exact .inr h
end
end Go.Ab
