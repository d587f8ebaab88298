/- A statement whose order is open: its soundness. -/
import Derived.Test.YthbimeikbkjnkaaGreatDoorBAbDraw
set_option linter.all false
namespace Go.Ab
section
variable {P:Program}{base:Nat}{D:Nat→Prop}
theorem zcm {ops:Array Oper}{Q:Exit→Act→World→Prop}{i:Nat}{o:Oper}{K:Act→World→Prop}{a:Act}{w:World}(ho:ops[i]? =some o)(hw:Region.wanted o (yielded ops a.tmps)=true)
 (h:o.wp P a w K Q):wpOp P ops Q i K a w:=by
 unfold wpOp
 simp only [ho,hw,if_true]
 exact .inl h
theorem zju {ops:Array Oper}{Q:Exit→Act→World→Prop}{i:Nat}{o:Oper}{K:Act→World→Prop}{a:Act}{w:World}(ho:ops[i]? =some o)(hw:Region.wanted o (yielded ops a.tmps)=false)
 (h:K (a.put o.dst undef) w):wpOp P ops Q i K a w:=by
 unfold wpOp
 simp only [ho,hw,Bool.false_eq_true,if_false]
 exact h
theorem zmL {ops:Array Oper}{i:Nat}{o:Oper}(h:ops[i]? =some o):zfK ops i=o.dst:=by simp [zfK,h]
def PanOK(C:Cfg)(P:Program)(ops:Array Oper)(i:Nat)(s:St)(v:V):Prop:=
 ∀(g0:G) (base:Nat) (D:Nat→Prop) (H0:Hp) (w0:World) (g:G) (a:Act) (w:World) (K:Out→St→Prop) (Q:Exit→Act→World→Prop) (next:Act→World→Prop),Entry C base D g0 H0 w0→
  Rel C base D g0 H0 w0 g s a w→(∀ e a w,Aft C base D g0 H0 w0 K e a w→Q e a w)→K (.panic v) s→wpOp P ops Q i next a w
theorem DStep_ok {C:Cfg}{ops:Array Oper}{o:Oper}{os:List Oper}{i:Nat}{s:St}{acc:List (Nat×Foot)}{K:Out→St→Prop}(hΓ:zcy P C)(ho:ops[i]? =some o)(h:DRun C P ops (o::os) i s acc K):
 (∃ f s' v,DRun C P ops os (i+1) s' (accF acc i f) K∧StepOK C P ops i s s' v f)∨(∃ v,(zdT ops i=true∧chk ops acc=true∧K (.panic v) s)∧PanOK C P ops i s v):=by
 have hdst:=zmL ho
 have sem:=zco hΓ ops o s.env s.h
 have want0:o.guard=none→∀ a:Act,Region.wanted o (yielded ops a.tmps)=true:=fun e a=>by unfold Region.wanted;rw [e]
 have stp:∀(st:Bool) (v:V) (h':Hp) (f:Foot),StepSem P C.nt ops o s.env s.h st v h' f→wok C f.W=true→(∀(g:G) (a:Act),OpsRel g C.nt ops o s.env a→Region.wanted o (yielded ops a.tmps)=true)→
  StepOK C P ops i s ((s.put o.dst v).hp h') v f:=by
  intro st v h' f hst hw hwant
  refine⟨by rw [hdst];rfl,hst.stat,hw,hst.births,?_⟩
  intro o' ho' g base D w a next Q hI hO hD hn
  obtain rfl:=Option.some.inj (ho.symm.trans ho')
  exact zcm ho (hwant g a hO) (hst.exec g base D w a next Q hI hO hD hn)
 have unw:∀(v:V) (f:Foot),f.W=[]→(∀ g:G,VRel g v undef)→(∀(g:G) (a:Act),OpsRel g C.nt ops o s.env a→Region.wanted o (yielded ops a.tmps)=false)→StepOK C P ops i s ((s.put o.dst v).hp s.h) v f:=by
  intro v f hf hv hwant;refine⟨by rw [hdst];rfl,by rw [hf];exact Stat.refl _,by rw [hf];rfl,fun b h1 h2=>by have:b<s.h.next:=h2;omega,?_⟩;intro o' ho' g base D w a next Q hI hO hD hn
  obtain rfl:=Option.some.inj (ho.symm.trans ho');refine zju ho (hwant g a hO) (hn g w undef (hv g) ?_);rw [hf];exact Post.refl hI rfl rfl ⟨rfl,Nat.le_refl _⟩ rfl
 have pan:∀(v:V) (R:List Nat),zjn P C.nt ops o s.env s.h v R→(∀(g:G) (a:Act),OpsRel g C.nt ops o s.env a→Region.wanted o (yielded ops a.tmps)=true)→PanOK C P ops i s v:=by
  intro v R hst hwant g0 base D H0 w0 g a w K Q next he hr hQ hk
  have hO:=hr.env.ops ops o;refine zcm ho (hwant g a hO) ?_;refine hst g base _ w a _ Q hr.post.inv hO (fun b _=>he.inD b) fun g' w' vc hv hp=>?_;exact hQ _ _ _ ⟨.panic v,s,g',hk,⟨vc,hv,rfl⟩,hr.env.mono hp.le,hr.defers,hr.step he hp rfl⟩
 unfold DRun at h
 split at h
 ·rename_i hg
  rcases zxD sem h with⟨st,v,h',f,hk,hwk,hst⟩|⟨v,R,hk,hst⟩
  ·exact .inl ⟨f,_,v,hk,stp st v h' f hst hwk fun g a _=>want0 hg a⟩
  ·exact .inr ⟨v,hk,pan v R hst fun g a _=>want0 hg a⟩
 ·split at h
  rotate_left;·exact h.elim
  rename_i gb hg
  have hwant:∀(g:G) (a:Act),OpsRel g C.nt ops o s.env a→Region.wanted o (yielded ops a.tmps)=gb:=fun g a hO=>znC hO.rel hg
  rcases zoP sem h with⟨rfl,st,v,h',f,hk,hwk,hst⟩|⟨rfl,v,R,hk,hst⟩|⟨rfl,hk⟩|⟨v,R,hk,hst⟩
  ·exact .inl ⟨f,_,v,hk,stp st v h' f hst hwk hwant⟩
  ·exact .inr ⟨v,hk,pan v R hst hwant⟩
  ·exact .inl ⟨⟨[],[],0,0⟩,_,undefV,hk,unw undefV _ rfl (fun g=>VRel.mk_tup rfl PW.nil) hwant⟩
  ·cases gb with
   |false=>exact .inl ⟨⟨R,[],0,0⟩,_,.opt false v,hk,unw _ _ rfl (fun g=>zhc rfl) hwant⟩
   |true=>
    refine .inl ⟨⟨R,[],0,0⟩,_,.opt true v,hk,?_⟩
    have hst:=hst rfl
    refine⟨by rw [hdst];rfl,hst.stat,rfl,hst.births,?_⟩
    intro o' ho' g base D w a next Q hI hO hD hn
    obtain rfl:=Option.some.inj (ho.symm.trans ho')
    exact zcm ho (hwant g a hO) (hst.exec g base D w a next Q hI hO hD fun g' w' vc hv hp=>hn g' w' vc (zoc rfl hv) hp)
end
end Go.Ab

namespace Go.Ab
section
variable {P:Program}{base:Nat}{D:Nat→Prop}
structure DSpec(C:Cfg)(P:Program)(ops:Array Oper)(i:Nat)(s:St)(acc:List (Nat×Foot))(K:Out→St→Prop)(m:Nat)(S:Nat→St)(v:Nat→V)(f:Nat→Foot)(acc':List (Nat×Foot)):Prop where
 im:i≤m
 hm:m≤ops.size
 start:S i=s
 step:∀ k,i≤k→k<m→StepOK C P ops k (S k) (S (k+1)) (v k) (f k)
 feet:∀ k,i≤k→k<m→(f k).idle=true∨(k,f k)∈acc'
 old:∀ p∈acc,p∈acc'
 chk:chk ops acc'=true
 fin:(m=ops.size∧K .norm (S m))∨(m<ops.size∧zdT ops m=true∧∃ pv,K (.panic pv) (S m)∧
  ∀(g0:G) (base:Nat) (D:Nat→Prop) (H0:Hp) (w0:World) (g:G) (a:Act) (w:World) (Q:Exit→Act→World→Prop) (next:Act→World→Prop),Entry C base D g0 H0 w0→
   Rel C base D g0 H0 w0 g (S m) a w→(∀ e a w,Aft C base D g0 H0 w0 K e a w→Q e a w)→(∀ o∈ops.toList,∀ d,o.dst=some d→d<C.nt)→wpOp P ops Q m next a w)
theorem znv {C:Cfg}{ops:Array Oper}{K:Out→St→Prop}(hΓ:zcy P C):∀(os:List Oper) (i:Nat),i≤ops.size→ops.toList.drop i=os→∀(s:St) (acc:List (Nat×Foot)),DRun C P ops os i s acc K→
 ∃ m S v f acc',DSpec C P ops i s acc K m S v f acc'
 |[],i,hi,hd,s,acc,h=>by
  have hn:i=ops.size:=by
   have:ops.toList.length≤i:=by simpa using hd
   simp at this;omega
  exact⟨i,fun _=>s,fun _=>.any,fun _=>⟨[],[],0,0⟩,acc,Nat.le_refl _,hi,rfl,fun k h1 h2=>by omega,fun k h1 h2=>by omega,fun p hp=>hp,h.1,.inl ⟨hn,h.2⟩⟩
 |o::os,i,hi,hd,s,acc,h=>by
  have ho:ops[i]? =some o:=by
   have:(ops.toList.drop i)[0]? =some o:=by rw [hd];rfl
   rw [List.getElem?_drop]at this;rw [←Array.getElem?_toList];simpa using this
  have hilt:i<ops.size:=(Array.getElem?_eq_some_iff.1 ho).1;have hos:ops.toList.drop (i+1)=os:=by rw [←List.drop_drop,hd];rfl
  have cons:∀ {s':St} {acc1:List (Nat×Foot)} {vi:V} {fi:Foot},StepOK C P ops i s s' vi fi→(∀ p∈acc,p∈acc1)→(fi.idle=true∨(i,fi)∈acc1)→DRun C P ops os (i+1) s' acc1 K→
   ∃ m S v f acc',DSpec C P ops i s acc K m S v f acc':=by
   intro s' acc1 vi fi hst hsub hfi hr
   obtain⟨m,S,v,f,acc',T⟩:=znv hΓ os (i+1) hilt hos s' acc1 hr
   have hS:∀ k, ¬k≤i→(fun k=>if k≤i then s else S k) k=S k:=fun k hk=>if_neg hk
   refine⟨m,fun k=>if k≤i then s else S k,fun k=>if k=i then vi else v k,fun k=>if k=i then fi else f k,acc',?_⟩
   have him:=T.im
   refine⟨by omega,T.hm,if_pos (Nat.le_refl _),fun k h1 h2=>?_,fun k h1 h2=>?_,fun p hp=>T.old p (hsub p hp),T.chk,?_⟩
   ·by_cases hk:k=i
    ·subst hk
     simp only [Nat.le_refl,if_true,if_neg (show ¬k+1≤k by omega)]
     rw [T.start];exact hst
    ·simp only [if_neg (show ¬k≤i by omega),if_neg (show ¬k+1≤i by omega),if_neg hk]
     exact T.step k (by omega) h2
   ·by_cases hk:k=i
    ·subst hk
     simp only [if_true]
     exact hfi.imp id fun h=>T.old _ h
    ·simp only [if_neg hk]
     exact T.feet k (by omega) h2
   ·simp only [if_neg (show ¬m≤i by omega)]
    exact T.fin
  rcases DStep_ok hΓ ho h with⟨fi,s',vi,hk,hst⟩|⟨pv,⟨hp1,hp2,hp3⟩,hpan⟩
  ·refine cons hst (fun p hp=>?_) ?_ hk
   ·unfold accF;split
    ·exact hp
    ·exact List.mem_cons_of_mem _ hp
   ·by_cases hid:fi.idle=true
    ·exact .inl hid
    ·unfold accF;rw [if_neg hid];exact .inr (List.mem_cons_self ..)
  ·refine⟨i,fun _=>s,fun _=>.any,fun _=>⟨[],[],0,0⟩,acc,Nat.le_refl _,hi,rfl,fun k h1 h2=>by omega,fun k h1 h2=>by omega,fun p hp=>hp,hp2,.inr ⟨hilt,hp1,pv,hp3,?_⟩⟩;intro g0 base D H0 w0 g a w Q next he hr hQ _
   exact hpan g0 base D H0 w0 g a w K Q next he hr hQ hp3
theorem zoK {f:Foot}(h:f.idle=true):f.R=[]∧f.W=[]∧f.lo=f.hi:=by simp only [Foot.idle,Bool.and_eq_true,List.isEmpty_iff,beq_iff_eq]at h;exact⟨h.1.1,h.1.2,h.2⟩
theorem DSpec.trun {C:Cfg}{ops:Array Oper}{s:St}{acc':List (Nat×Foot)}{K:Out→St→Prop}{m:Nat}{S:Nat→St}{v:Nat→V}{f:Nat→Foot}(T:DSpec C P ops 0 s [] K m S v f acc')
 (hok:zcu ops=true) (hk:∀ b x,s.h.get b=some x→b<s.h.next) (hd:∀ o∈ops.toList,∀ d,o.dst=some d→d<C.nt):TRun C P ops m S v f:=
 ⟨T.hm,hok,fun k hk=>T.step k (Nat.zero_le _) hk,by rw [T.start];exact hk,hd⟩
theorem zkW {C:Cfg}{ops:Array Oper}{m:Nat}{S:Nat→St}{v:Nat→V}{f:Nat→Foot}(R:TRun C P ops m S v f){i j b:Nat}(hij:i<j)(hj:j<m)
 (hb:(touch S f i b∧(b∈(f j).R∨touch S f j b))∨(b∈(f i).R∧touch S f j b)):clash (f i) (f j)=true:=by
 have hbi:∀ k,k<m→(S k).h.next≤b→b<(S (k+1)).h.next→(f k).lo≤b∧b<(f k).hi:=fun k hk h1 h2=>(R.step k hk).births b h1 h2
 unfold clash
 simp only [Bool.or_eq_true,List.any_eq_true,Bool.and_eq_true,decide_eq_true_eq,List.contains_iff_mem]
 rcases hb with⟨h1,h2⟩|⟨h1,h2⟩
 ·rcases h1 with h1|h1
  ·rcases h2 with h2|h2|h2
   ·exact .inl (.inl (.inl ⟨b,h1,.inl (.inl h2)⟩))
   ·exact .inl (.inl (.inl ⟨b,h1,.inl (.inr h2)⟩))
   ·exact .inl (.inl (.inl ⟨b,h1,.inr (hbi j hj h2.1 h2.2)⟩))
  ·have h1':=hbi i (by omega) h1.1 h1.2
   rcases h2 with h2|h2|h2
   ·exact .inl (.inr ⟨b,h2,h1'⟩)
   ·exact .inl (.inl (.inr ⟨b,h2,.inr h1'⟩))
   ·have:=R.next_mono j (i+1) (by omega) (by omega);omega
 ·rcases h2 with h2|h2
  ·exact .inl (.inl (.inr ⟨b,h2,.inl h1⟩))
  ·exact .inr ⟨b,h1,hbi j hj h2.1 h2.2⟩
theorem DSpec.ordered {C:Cfg}{ops:Array Oper}{s:St}{acc':List (Nat×Foot)}{K:Out→St→Prop}{m:Nat}{S:Nat→St}{v:Nat→V}{f:Nat→Foot}(T:DSpec C P ops 0 s [] K m S v f acc')
 (R:TRun C P ops m S v f):Ordered C P ops m S v f:=by
 intro i j b hij hj hb
 refine .inl ?_
 have hbi:∀ k,k<m→(S k).h.next≤b→b<(S (k+1)).h.next→(f k).lo≤b∧b<(f k).hi:=fun k hk h1 h2=>(T.step k (Nat.zero_le _) hk).births b h1 h2
 have nobirths:∀ {k:Nat},k<m→(f k).W=[]→(f k).lo=(f k).hi→¬touch S f k b:=by
  intro k hk hw hl ht;rcases ht with ht|ht
  ·rw [hw]at ht;cases ht
  ·have:=hbi k hk ht.1 ht.2;omega
 have hcl:clash (f i) (f j)=true:=by
  unfold clash;simp only [Bool.or_eq_true,List.any_eq_true,Bool.and_eq_true,decide_eq_true_eq,List.contains_iff_mem];rcases hb with⟨h1,h2⟩|⟨h1,h2⟩
  ·rcases h1 with h1|h1
   ·rcases h2 with h2|h2|h2
    ·exact .inl (.inl (.inl ⟨b,h1,.inl (.inl h2)⟩))
    ·exact .inl (.inl (.inl ⟨b,h1,.inl (.inr h2)⟩))
    ·exact .inl (.inl (.inl ⟨b,h1,.inr (hbi j hj h2.1 h2.2)⟩))
   ·have h1':=hbi i (by omega) h1.1 h1.2;rcases h2 with h2|h2|h2
    ·exact .inl (.inr ⟨b,h2,h1'⟩)
    ·exact .inl (.inl (.inr ⟨b,h2,.inr h1'⟩))
    ·have:=R.next_mono j (i+1) (by omega) (by omega);omega
  ·rcases h2 with h2|h2
   ·exact .inl (.inl (.inr ⟨b,h2,.inl h1⟩))
   ·exact .inr ⟨b,h1,hbi j hj h2.1 h2.2⟩
 have hi':=T.feet i (Nat.zero_le _) (by omega)
 have hj':=T.feet j (Nat.zero_le _) hj
 rcases hi' with hi'|hi'
 ·obtain⟨h1,h2,h3⟩:=zoK hi'
  rcases hb with⟨h4,_⟩|⟨h4,_⟩
  ·exact absurd h4 (nobirths (by omega) h2 h3)
  ·rw [h1]at h4;cases h4
 rcases hj' with hj'|hj'
 ·obtain⟨h1,h2,h3⟩:=zoK hj'
  rcases hb with⟨_,h4|h4⟩|⟨_,h4⟩
  ·rw [h1]at h4;cases h4
  ·exact absurd h4 (nobirths hj h2 h3)
  ·exact absurd h4 (nobirths hj h2 h3)
 have hc:=T.chk
 simp only [Ab.chk,Bool.or_eq_true]at hc
 rcases hc with hc|hc
 ·have st:∀ {k:Nat},(k,f k)∈acc'→(f k).W=[]∧(f k).lo=(f k).hi:=by
   intro k h
   have:=List.all_eq_true.1 hc _ h
   simpa [Foot.still,Bool.and_eq_true,List.isEmpty_iff,beq_iff_eq] using this
  rcases hb with⟨h4,_⟩|⟨_,h4⟩
  ·exact absurd h4 (nobirths (by omega) (st hi').1 (st hi').2)
  ·exact absurd h4 (nobirths hj (st hj').1 (st hj').2)
 ·have h1:=List.all_eq_true.1 (List.all_eq_true.1 hc _ hi') _ hj'
  simp only [hij,decide_true,Bool.not_true,Bool.false_or,hcl]at h1
  exact zcF h1
structure DEnd(C:Cfg)(P:Program)(ops:Array Oper)(s:St)(K:Out→St→Prop)(m:Nat)(S:Nat→St)(v:Nat→V)(f:Nat→Foot):Prop where
 hm:m≤ops.size
 start:S 0=s
 step:∀ k,k<m→StepOK C P ops k (S k) (S (k+1)) (v k) (f k)
 ord:Ordered C P ops m S v f
 fin:(m=ops.size∧K .norm (S m))∨(m<ops.size∧zdT ops m=true∧∃ pv,K (.panic pv) (S m)∧
  ∀(g0:G) (base:Nat) (D:Nat→Prop) (H0:Hp) (w0:World) (g:G) (a:Act) (w:World) (Q:Exit→Act→World→Prop) (next:Act→World→Prop),Entry C base D g0 H0 w0→
   Rel C base D g0 H0 w0 g (S m) a w→(∀ e a w,Aft C base D g0 H0 w0 K e a w→Q e a w)→(∀ o∈ops.toList,∀ d,o.dst=some d→d<C.nt)→wpOp P ops Q m next a w)
theorem DSpec.toEnd {C:Cfg}{ops:Array Oper}{s:St}{acc':List (Nat×Foot)}{K:Out→St→Prop}{m:Nat}{S:Nat→St}{v:Nat→V}{f:Nat→Foot}(T:DSpec C P ops 0 s [] K m S v f acc')
 (hok:zcu ops=true) (hk:∀ b x,s.h.get b=some x→b<s.h.next) (hd:∀ o∈ops.toList,∀ d,o.dst=some d→d<C.nt):DEnd C P ops s K m S v f:=
 ⟨T.hm,T.start,fun k hk=>T.step k (Nat.zero_le _) hk,T.ordered (T.trun hok hk hd),T.fin⟩
theorem filter_lt {α:Type}(p p':α→Bool):∀(l:List α),(∀ x∈l,p' x=true→p x=true)→∀ i∈l,p i=true→p' i=false→(l.filter p').length<(l.filter p).length
 |[],_,i,hi,_,_=>by cases hi
 |x::l,h,i,hi,h1,h2=>by
  have mono:∀(l:List α),(∀ x∈l,p' x=true→p x=true)→(l.filter p').length≤(l.filter p).length:=by
   intro l;induction l with
   |nil=>intro _;exact Nat.le_refl _
   |cons y l ih=>
    intro h;have:=ih fun x hx=>h x (List.mem_cons_of_mem _ hx);rw [List.filter_cons,List.filter_cons];by_cases hy:p' y=true
    ·rw [if_pos hy,if_pos (h y (List.mem_cons_self ..) hy)];simp;exact this
    ·rw [if_neg hy];split
     ·simp;omega
     ·exact this
  rw [List.filter_cons,List.filter_cons];rcases List.mem_cons.1 hi with rfl|hi
  ·rw [h2,h1];simp only [Bool.false_eq_true,if_false,if_true,List.length_cons];have:=mono l fun x hx=>h x (List.mem_cons_of_mem _ hx);omega
  ·have ih:=filter_lt p p' l (fun x hx=>h x (List.mem_cons_of_mem _ hx)) i hi h1 h2;by_cases hx:p' x=true
   ·rw [if_pos hx,if_pos (h x (List.mem_cons_self ..) hx)];simp;exact ih
   ·rw [if_neg hx];split
    ·simp;omega
    ·exact ih
def left(n:Nat)(listed:Array Bool):Nat:=((List.range n).filter fun k=> !listed.getD k true).length
theorem zql {n:Nat}{listed:Array Bool}{i:Nat}(hi:i<n)(hs:listed.size=n)(hf:listed.getD i true=false):left n (listed.setIfInBounds i true)<left n listed:=by
 refine filter_lt _ _ (List.range n) (fun k hk h=>?_) i (by simpa using hi) (by simp [hf]) ?_
 ·by_cases hki:k=i
  ·subst hki;simp [hf]
  ·simpa [Array.getD_eq_getD_getElem?,Array.getElem?_setIfInBounds_ne (Ne.symm hki)] using h
 ·simp [Array.getD_eq_getD_getElem?,hs,hi]
theorem draw_ok {C:Cfg}{ops:Array Oper}{s:St}{K:Out→St→Prop}{m:Nat}{S:Nat→St}{v:Nat→V}{f:Nat→Foot}{g0:G}{H0:Hp}{w0:World}
 (he:Entry C base D g0 H0 w0) (T:DEnd C P ops s K m S v f) (hok:zcu ops=true) (hd:∀ o∈ops.toList,∀ d,o.dst=some d→d<C.nt)
 {gS:G} {aS:Act} {wS:World} (r:Rel C base D g0 H0 w0 gS s aS wS) (Q:Exit→Act→World→Prop) (hQ:∀ e a w,Aft C base D g0 H0 w0 K e a w→Q e a w):
 wpAny P .any ops Q ops.size (Array.replicate ops.size false) aS wS:=by
 have R:TRun C P ops m S v f:=⟨T.hm,hok,T.step,by rw [T.start];exact r.post.inv.keys,hd⟩
 have hord:=T.ord
 have hst:=T.start
 let WA:=(List.range m).flatMap fun k=>(f k).W
 have hWA:∀ k,k<m→∀ b∈(f k).W,b∈WA:=fun k hk b hb=>List.mem_flatMap.2 ⟨k,by simpa using hk,hb⟩
 have hwok:wok C WA=true:=by refine List.all_eq_true.2 fun b hb=>?_;obtain⟨k,hk,hb⟩:=List.mem_flatMap.1 hb;exact List.all_eq_true.1 (T.step k (by simpa using hk)).wok b hb
 have final:∀ {L:Nat→Prop} {g:G} {a:Act} {w:World},SInv C ops m S f gS base wS WA L g a w→(∀ k,k<m→L k)→Rel C base D g0 H0 w0 (g.cut (S m).h.next) (S m) a w:=by
  intro L g a w I hL;have cb:∀ b,zdL S f m L b m:=fun b=>⟨Nat.le_refl _,fun k hk _=>⟨fun _=>hk,fun _=>hL k hk⟩⟩;have ct:∀ t,condt ops m L t m:=fun t=>⟨Nat.le_refl _,fun k hk _=>⟨fun _=>hk,fun _=>hL k hk⟩⟩;refine⟨⟨I.glob,I.tmps,fun t u e=>I.env t m u (ct t) e⟩,I.defers,?_⟩;have hp:Post gS (g.cut (S m).h.next) base s.h (S m).h (fun b=>D b∨H0.next≤b) WA wS w:=by
   have hnext:s.h.next≤(S m).h.next:=by have:=R.next_mono m 0 (Nat.zero_le _) (Nat.le_refl _);rw [hst]at this;exact this
   refine⟨?_,?_,?_,I.newphi,I.frame,I.size,I.os,I.tape,I.output,?_,hnext⟩
   ·exact⟨fun b U e=>G.cut_some.2 ⟨Nat.lt_of_lt_of_le (r.post.inv.dom b U e).1 hnext,I.le.1 b U e⟩,I.le.2⟩
   ·refine⟨I.frz,fun b U e=>⟨(G.cut_some.1 e).1,(I.dom b U (G.cut_some.1 e).2).2⟩,R.keysAt m (Nat.le_refl _),fun b x _ e=>?_,fun b b' x x' U U' _ _ e e' m1 m2 ec=>?_,Nat.le_trans I.base I.size⟩
    ·obtain⟨U,o,e1,e2,e3,e4⟩:=I.cont b m x (cb b) e;exact⟨U,o,G.cut_some.2 ⟨R.keysAt m (Nat.le_refl _) b x e,e1⟩,e2,e3,e4⟩
    ·exact I.inj b b' m m x x' U U' (cb b) (cb b') e e' (G.cut_some.1 m1).2 (G.cut_some.1 m2).2 ec
   ·intro b U e;have:=I.newmu b U (G.cut_some.1 e).2;rw [hst]at this;exact this
   ·intro b hb hn;rw [←hst];refine R.same b m 0 (Nat.zero_le _) (Nat.le_refl _) (by rw [hst];exact hb) fun k _ hk ht=>?_;rcases ht with ht|ht
    ·exact hn (hWA k hk b ht)
    ·have:=R.next_mono k 0 (Nat.zero_le _) (by omega);rw [hst]at this;omega
  exact r.step he hp hwok
 have key:∀(fuel:Nat) (listed:Array Bool) (g:G) (a:Act) (w:World),listed.size=ops.size→(∀ k,listed.getD k false=true→k<m)→Closed ops (fun k=>listed.getD k false=true)→
  SInv C ops m S f gS base wS WA (fun k=>listed.getD k false=true) g a w→left ops.size listed≤fuel→wpAny P .any ops Q fuel listed a w:=by
  have getD_tf:∀(listed:Array Bool) (k:Nat),k<listed.size→listed.getD k true=listed.getD k false:=by intro l k hk;simp [Array.getD_eq_getD_getElem?,hk]
  intro fuel
  induction fuel with
  |zero=>
   intro listed g a w hs hm hcl I hle
   have hall:∀ k,k<ops.size→listed.getD k false=true:=by
    intro k hk;cases e:listed.getD k false with
    |true=>rfl
    |false=>have:left ops.size (listed.setIfInBounds k true)<left ops.size listed:=zql hk hs (by rw [getD_tf listed k (by omega)];exact e);omega
   have hmn:m=ops.size:=by
    rcases T.fin with⟨h,_⟩|⟨h,_⟩
    ·exact h
    ·have:=hm m (hall m h);omega
   refine⟨?_,?_⟩
   ·unfold Region.ready
    rw [List.filter_eq_nil_iff]
    intro i hi
    have hi':i<ops.size:=by simpa using hi
    simp [getD_tf listed i (by omega),hall i hi']
   ·rcases T.fin with⟨_,hK⟩|⟨h,_⟩
    ·exact hQ _ _ _ ⟨.norm,S m,_,hK,trivial,final I fun k hk=>hall k (by have:=T.hm;omega)⟩
    ·omega
  |succ fuel ih=>
   intro listed g a w hs hm hcl I hle
   have rdy:∀ i,i∈Region.ready .any ops listed↔i<ops.size∧listed.getD i false=false∧∀ o,ops[i]? =some o→∀ e∈o.after.toList,Region.binds .any e=true→listed.getD e.on false=true:=by
    intro i;unfold Region.ready;rw [List.mem_filter];simp only [List.mem_range,Bool.and_eq_true,Bool.not_eq_true'];constructor
    ·rintro⟨h1,h2,h3⟩;refine⟨h1,by rw [←getD_tf listed i (by omega)];exact h2,fun o ho e he hb=>?_⟩;rw [ho]at h3;simp only [Option.map_some,Option.getD_some]at h3;rw [←Array.all_toList]at h3;have:=List.all_eq_true.1 h3 e he;simpa [hb] using this
    ·rintro⟨h1,h2,h3⟩;refine⟨h1,by rw [getD_tf listed i (by omega)];exact h2,?_⟩;have ho:ops[i]? =some ops[i]:=by simp [h1]
     rw [ho];simp only [Option.map_some,Option.getD_some];rw [←Array.all_toList];refine List.all_eq_true.2 fun e he=>?_;cases hb:Region.binds .any e with
     |false=>rfl
     |true=>simpa using h3 _ ho e he hb
   refine⟨fun hnil=>?_,fun i hi=>?_⟩
   ·
     have hall:∀ k,k<ops.size→listed.getD k false=true:=by
      intro k;induction k using Nat.strongRecOn with
      |_ k ihk=>
       intro hk;cases e:listed.getD k false with
       |true=>rfl
       |false=>exfalso;have:k∈Region.ready .any ops listed:=(rdy k).2 ⟨hk,e,fun o ho ed hed hb=>by have:=zhH hok ho hed hb;exact ihk ed.on this (by omega)⟩;rw [hnil]at this;cases this
     rcases T.fin with⟨hmn,hK⟩|⟨h,_⟩
     ·exact hQ _ _ _ ⟨.norm,S m,_,hK,trivial,final I fun k hk=>hall k (by have:=T.hm;omega)⟩
     ·have:=hm m (hall m h);omega
   ·obtain⟨hi1,hi2,hi3⟩:=(rdy i).1 hi
    have hbef:∀ k j,Bef ops k j→j=i→listed.getD k false=true:=by
     intro k j hb;induction hb with
     |edge ho he hbd=>rintro rfl;exact hi3 _ ho _ he hbd
     |trans h1 h2 ih1 ih2=>rintro rfl;exact hcl _ _ (ih2 rfl) h1
    rcases Nat.lt_trichotomy i m with him|him|him
    ·
      refine SInv.next R hord hWA I hcl (fun k hk=>hm k hk) him (by simp [hi2]) (fun k hb=>hbef k i hb rfl) _ ?_ Q
      intro g' a' w' I'
      have hset:∀ k,(listed.setIfInBounds i true).getD k false=true↔(listed.getD k false=true∨k=i):=by
       intro k;by_cases hk:k=i
       ·subst hk;simp [Array.getD_eq_getD_getElem?,hs,hi1]
       ·simp [Array.getD_eq_getD_getElem?,Array.getElem?_setIfInBounds_ne (Ne.symm hk),hk]
      refine ih _ g' a' w' (by simpa using hs) (fun k hk=>?_) (fun k j hj hb=>?_) ?_ ?_
      ·rcases(hset k).1 hk with h|h
       ·exact hm k h
       ·omega
      ·refine(hset k).2 (.inl ?_)
       rcases(hset j).1 hj with h|h
       ·exact hcl k j h hb
       ·exact hbef k j hb h
      ·have:(fun k=>(listed.setIfInBounds i true).getD k false=true)=(fun k=>listed.getD k false=true∨k=i):=funext fun k=>propext (hset k)
       rw [this];exact I'
      ·have:=zql hi1 hs (by rw [getD_tf listed i (by omega)];exact hi2)
       omega
    ·
      subst him
      rcases T.fin with⟨h,_⟩|⟨_,hp,pv,hK,hpan⟩
      ·omega
      ·simp only [zdT,Bool.and_eq_true]at hp
       refine hpan g0 base D H0 w0 _ a w Q _ he (final I fun k hk=>?_) hQ hd
       exact hbef k i (zcF (List.all_eq_true.1 hp.1 k (by simpa using hk))) rfl
    ·
      exfalso
      rcases T.fin with⟨h,_⟩|⟨_,hp,_⟩
      ·omega
      ·simp only [zdT,Bool.and_eq_true]at hp
       have h1:=List.all_eq_true.1 hp.2 i (by simpa using hi1)
       simp only [Bool.or_eq_true,decide_eq_true_eq]at h1
       have h2:Bef ops m i:=zcF (h1.resolve_left (by omega))
       have:=hm m (hbef m i h2 rfl)
       omega
 have hnone:∀ k,(Array.replicate ops.size false).getD k false=false:=by intro k;simp [Array.getD_eq_getD_getElem?,Array.getElem?_replicate];split<;>rfl
 refine key ops.size _ gS aS wS (by simp) (fun k hk=>by rw [hnone]at hk;cases hk) (fun k j hj _=>by have hj':=hj;simp only [hnone]at hj';cases hj') ?_ ?_
 ·have hL:(fun k=>(Array.replicate ops.size false).getD k false=true)=fun _=>False:=funext fun k=>by rw [hnone];simp
  rw [hL]
  refine SInv.start R ?_ (by rw [hst];exact r.env) r.defers
  rw [hst]
  exact⟨r.post.inv.frz,r.post.inv.dom,r.post.inv.keys,fun b x _=>r.post.inv.cont b x (he.inD b),fun b b' x x' U U' _ _=>r.post.inv.inj b b' x x' U U' (he.inD b) (he.inD b'),r.post.inv.base⟩
 ·unfold left
  exact Nat.le_trans (List.length_filter_le _ _) (by simp)
end
end Go.Ab
