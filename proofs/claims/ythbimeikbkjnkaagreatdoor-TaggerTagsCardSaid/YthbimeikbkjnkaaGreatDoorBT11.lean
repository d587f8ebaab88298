/- Tag. -/
import Derived.Test.YthbimeikbkjnkaaGreatDoorBAbMapS
set_option linter.all false
namespace Go.Proofs
open Go.Ab Go.Cnt Go.Pl Go.Tg
theorem NCall.drop2 {f:FuncId}{args:List V}{F:List Blk}{v:V}{r:Run}{X:Blk}{n:Nat}(hF:F.length=2)(hN:NCall Tryz.prog f args F [0] v ⟨[(2,X),(0,.cells (runC r)),(1,.cells [.ptr 0 0])],n⟩)(hv:Pure v):
 NCall Tryz.prog f args F [0] v ⟨[(0,.cells (runC r)),(1,.cells [.ptr 0 0])],2⟩:=by
 have hl:∀ b,b<2→([(2,X)]:List (Nat×Blk)).lookup b=none:=fun b hb=>by
  rcases b with _|_|b
  ·rfl
  ·rfl
  ·omega
 refine hN.freeze [] (fun b hb=>by cases hb) (fun b hb=>?_) (.inr (.pure hv)) (fun b x' e=>?_) (fun b hb=>?_) (by rw [hF];exact Nat.le_refl _)
 ·rw [List.mem_singleton.1 hb]
  exact⟨_,rfl⟩
 ·obtain⟨hb,e2⟩:=zuQ (n:=n) hl b x' e
  refine⟨hb,by simp,x',e2,.inl ?_⟩
  have e':([(0,Blk.cells (runC r)),(1,.cells [.ptr 0 0])]:List (Nat×Blk)).lookup b=some x':=e
  rcases b with _|_|b
  ·cases e';exact .cells (zt (zbi _))
  ·cases e';exact .cells (zbm (r:=[]) ⟨by simp,by show 0<2;omega⟩ rfl (by simp))
  ·omega
 ·rw [hF]at hb
  rcases b with _|_|b
  ·rfl
  ·rfl
  ·omega
theorem HCall.two {f:FuncId}{args args':List V}{v:V}{s s':Run}(hN:NCall Tryz.prog f args [.cells (runC s),.cells [.ptr 0 0]] [0] v ⟨[(0,.cells (runC s')),(1,.cells [.ptr 0 0])],2⟩)(hv:Pure v)(b c:Nat)(H:Hp)
 (ha:LRel (Rn (fun i=>[b,c].getD i 0) (· <2)) args args') (hne:b≠c) (hb:H.get b=some (.cells (runC s))) (hc:H.get c=some (.cells [.ptr b 0])) (hk:∀ b x,H.get b=some x→b<H.next):
 HCall Tryz.prog f args' H ⟨True,v,H.put b (.cells (runC s')),[b,c],[b]⟩:=by
 have tb:zJ [b,c] H.next b=0:=by unfold zJ;rw [if_pos (hk b _ hb)];simp
 have tc:zJ [b,c] H.next c=1:=by unfold zJ;rw [if_pos (hk c _ hc)];exact idx1 hne
 refine HCall.of hN [b,c] args' v H _ rfl (by simpa using hne) ha (fun i x hx=>?_) (.same hv) rfl (fun b' x' hx'=>?_) (fun b' hb' hw=>?_)
 ·match i with
  |0=>cases hx;exact⟨b,_,rfl,hb,.cells (zt (zbi s))⟩
  |1=>cases hx;exact⟨c,_,rfl,hc,.cells (zbm (π:=fun i=>[b,c].getD i 0) (b:=0) (r:=[]) (Nat.zero_lt_succ _) rfl (by simp))⟩
  |i+2=>simp at hx
 ·rw [Hp.get_put]at hx'
  split at hx'
  ·rename_i he
   subst he
   rw [hb]at hx'
   cases hx'
   refine .inr ⟨.inl (by simp),.cells (runC s'),?_,.cells (zt (zbi _))⟩
   rw [tb];rfl
  ·rename_i he
   by_cases h2:b'=c
   ·subst h2
    rw [hc]at hx'
    cases hx'
    refine .inr ⟨.inl (by simp),.cells [.ptr 0 0],by rw [tc];rfl,.cells ?_⟩
    exact zbm (r:=[]) (.inl (by simp)) tb (by simp)
   ·exact .inl ⟨hk b' _ hx',by simp [he,h2],hx'⟩
 ·rw [Hp.get_put,if_neg (by simpa using hw)]
structure RunOK(m:Mdl)(cs:List Nat):Prop where
 v:vmB m=true
 f:Fit m
 l:cs.length≤1000
 c:∀ i,i<cs.length→cs.getD i 0≤m.words.length
 s:∀ i j,(nx m i j).length≤1000000000∧(em m i j).length≤1000000000
def FwdLR(args:List V)(H:Hp)(r:AR):Prop:=∃(c b:Nat) (m:Mdl) (cs:List Nat),args=[.ptr b 0,tlV o49,tlV z48,.fn 37 [.ptr c 0],.fn 40 []]∧b≠c∧H.get b=some (.cells (runC ⟨m,cs,0⟩))∧H.get c=some (.cells [.ptr b 0])∧
 (∀ b x,H.get b=some x→b<H.next)∧RunOK m cs∧r=⟨True,tlV (finT stL plL m z48 o49 cs).1,H.put b (.cells (runC ⟨m,cs,(finT stL plL m z48 o49 cs).2⟩)),[b,c],[b]⟩
theorem fwdLR_ok:∀ args H r,FwdLR args H r→HCall Tryz.prog 39 args H r:=by
 rintro args H r ⟨c,b,m,cs,rfl,hne,hb,hc,hk,⟨h1,h2,h3,h4,h5⟩,rfl⟩;refine HCall.two (NCall.drop2 rfl (fwdL_N m cs h1 h2 h3 h4 h5) (zba _)) (zba _) b c H ?_ hne hb hc hk;refine⟨rfl,fun i x y hx hy=>?_⟩;match i with
 |0=>cases hx;cases hy;exact .ptr (π:=fun i=>[b,c].getD i 0) (b:=0) (Nat.zero_lt_succ _)
 |1=>cases hx;cases hy;exact .same (zba _)
 |2=>cases hx;cases hy;exact .same (zba _)
 |3=>
  cases hx;cases hy;refine .fn rfl fun i x y hx hy=>?_;match i with
  |0=>cases hx;cases hy;exact .ptr (π:=fun i=>[b,c].getD i 0) (b:=1) (Nat.lt_succ_self _)
  |i+1=>simp at hx
 |4=>cases hx;cases hy;exact .fn rfl fun i x y hx hy=>by simp at hx
 |i+5=>simp at hx
noncomputable def ΔG:FuncId→List V→Hp→Option AR:=zcT 33 (conD zAG) (zcT 39 (conD FwdLR) noΔ)
theorem zli:za5 Tryz.prog ΔG:=zaC (za1 zvi) (zaC (za1 fwdLR_ok) zf)
theorem ΔG_fwd {m:Mdl}{cs:List Nat}{bs:List (Nat×Blk)}{n b c:Nat}(hne:b≠c)(hb:zaH bs b=some (.cells (runC ⟨m,cs,0⟩)))(hc:zaH bs c=some (.cells [.ptr b 0]))(hk:((keysB bs).all fun b=>decide (b<n))=true)(ho:RunOK m cs):
 ΔG 39 [.ptr b 0,tlV o49,tlV z48,.fn 37 [.ptr c 0],.fn 40 []] ⟨bs,n⟩=
  some ⟨True,tlV (finT stL plL m z48 o49 cs).1,(⟨bs,n⟩:Hp).put b (.cells (runC ⟨m,cs,(finT stL plL m z48 o49 cs).2⟩)),[b,c],[b]⟩:=by
 refine zaI (R:=FwdLR) ⟨c,b,m,cs,rfl,hne,by rw [zbj];exact hb,by rw [zbj];exact hc,zbD hk,ho,rfl⟩ fun r' ⟨c',b',m',cs',e1,_,e2,e3,_,_,e4⟩=>?_
 simp only [List.cons.injEq,V.ptr.injEq,V.fn.injEq,and_true,true_and]at e1
 obtain⟨rfl,rfl⟩:=e1
 rw [zbj,hb]at e2
 simp only [Option.some.injEq,Blk.cells.injEq]at e2
 have:=zeT e2
 simp only [Run.mk.injEq,and_true]at this
 obtain⟨rfl,rfl⟩:=this
 exact e4
def slQ(b:Nat)(l:List Str):V:=if l=[]then .nilS else .sl b 0 l.length 1 none
def blkQ(b:Nat)(l:List Str)(r:List (Nat×Blk)):List (Nat×Blk):=if l=[]then r else(b,.cells (strs l))::r
theorem zjM(b:Nat):slQ b []=.nilS:=rfl
theorem zgC(b:Nat)(r:List (Nat×Blk)):blkQ b [] r=r:=rfl
theorem zfV(b:Nat){l:List Str}(h:l≠[]):slQ b l=.sl b 0 l.length 1 none:=if_neg h
theorem zd5(b:Nat){l:List Str}(h:l≠[])(r:List (Nat×Blk)):blkQ b l r=(b,.cells (strs l))::r:=if_neg h
theorem zqx {H:Hp}{b:Nat}(l:List Str)(hg:H.get b=some (.cells (strs l))):Frz H (.sl b 0 l.length 1 none) (.fs (strs l) l.length):=by refine .sl hg (by simp [strs]) (by simp [strs]) fun i x y hx hy=>?_;rw [List.drop_zero,Nat.mul_one,List.take_of_length_le (by simp [strs])]at hx;rw [hx]at hy;cases hy;exact .pure (zae _ _ (List.mem_of_getElem? hx))
noncomputable def tagR(m:Mdl)(ws:List Str):(List Str×Str)×Int:=
 if (vmB m&&zbq ws)=false then(([],[]),1)else
 if (finT stL plL m z48 o49 (zq m ws)).2≠0 then(([],[]),(finT stL plL m z48 o49 (zq m ws)).2)else
 if (finT stL plL m z48 o49 (zq m ws)).1.1=[48]then(([],[]),4)else
 (((finT stL plL m z48 o49 (zq m ws)).1.2.map fun t=>m.tags.getD t [],(finT stL plL m z48 o49 (zq m ws)).1.1),0)
set_option maxHeartbeats 8000000 in
set_option maxRecDepth 100000 in
theorem tag_ok(m:Mdl)(ws:List Str)(hf:Fit m)(hw:ws.length≤1000)(hl:∀ i j,(nx m i j).length≤1000000000∧(em m i j).length≤1000000000)(htags:vmB m=true→∀ t∈(finT stL plL m z48 o49 (zq m ws)).1.2,t<m.tags.length):
 PCall Tryz.prog 13 [mdlV m,.fs (strs ws) ws.length] (.ret (.tup [.fs (strs (tagR m ws).1.1) (tagR m ws).1.1.length,.str (tagR m ws).1.2,.int .i64 (tagR m ws).2])):=by
 have p1:ΔG 33 [mdlV m,.fs (strs ws) ws.length] ⟨[],0⟩=_:=zvj m ws hf (by omega)
 obtain⟨R,hR⟩:∃ R,R=tagR m ws:=⟨_,rfl⟩
 rw [←hR]
 unfold tagR at hR
 have hlen:(zq m ws).length=ws.length:=by simp [zq]
 have hcc:∀ i,i<(zq m ws).length→(zq m ws).getD i 0≤m.words.length:=fun i hi=>by rw [zmP m ws i (by omega)];exact zhw _ _
 have hok:vmB m=true→RunOK m (zq m ws):=fun h=>⟨h,hf,by omega,hcc,hl⟩
 refine PCall.walk (rs:=[.tmp 4,.tmp 5,.tmp 6]) [0,1,2,4,5,6,7,8,9,11,19,27,37,42,43,44,45] [25] mixed (zh) (zli) call13 Tryz.func13 rfl Tryz.ntmps13 rfl (by kernel_rfl) (by simp) (by simp [push_cast,zb1]) ?_
 have t1:=fun h=>ΔG_fwd (m:=m) (cs:=zq m ws) (bs:=[(1,.cells [.ptr 0 0]),(0,.cells (runC ⟨m,zq m ws,0⟩))]) (n:=2) (b:=0) (c:=1) (by decide) rfl rfl rfl (hok h)
 cases hb:(vmB m&&zbq ws)with
 |false=>
  rw [hb,if_neg (by simp)]at p1
  rw [if_pos hb]at hR
  rw [hR]
  clear t1 hok hcc hlen htags hR
  obtain⟨T,W,N,E⟩:=m
  unfold mdlV at p1 ⊢
  dsimp only at p1 ⊢
  simp (disch:=first|assumption|(push_cast<;>omega)|omega) only [go_sem,p1]
 |true=>
  have hvm:vmB m=true:=by simp only [Bool.and_eq_true]at hb;exact hb.1
  rw [hb,if_pos rfl]at p1
  rw [if_neg (by rw [hb];simp)]at hR
  replace htags:=htags hvm
  replace t1:=t1 hvm
  generalize zq m ws=cs at*
  have hzl:(finT stL plL m z48 o49 cs).1.2.length≤cs.length+1:=(zgy (m:=m) (zfm (m:=m) (t:=cs.length) (zfb m cs cs.length)) _ _).2
  generalize finT stL plL m z48 o49 cs=z at t1 hR htags hzl
  obtain⟨⟨z1,z2⟩,z3⟩:=z
  dsimp only at t1 hR htags hzl
  rw [tlV_o,tlV_z,zeR]at t1
  have t2:ΔG 39 [.ptr 0 0,.agg [.str [49],.nilS],.agg [.str [48],.nilS],.fn 37 [.ptr 1 0],.fn 40 []] ⟨[(1,.cells [.ptr 0 0]),(0,.cells (runC ⟨m,cs,0⟩))],2⟩=some ⟨True,.agg [.str z1,tgV z2],⟨[(1,.cells [.ptr 0 0]),(0,.cells (runC ⟨m,cs,z3⟩))],2⟩,[0,1],[0]⟩:=t1
  clear t1
  obtain⟨T,W,N,E⟩:=m
  unfold mdlV at p1 ⊢
  unfold runC at p1 t2
  dsimp only at p1 t2 htags hR ⊢
  simp (disch:=first|assumption|(push_cast<;>omega)|omega) only [go_sem,p1,t2]
  refine AXc.introN (fun h1=>?_) (fun h1=>?_)
  ·rw [if_pos h1]at hR
   rw [hR]
   simp (disch:=first|assumption|(push_cast<;>omega)|omega) only [go_sem]
   refine AXk.intro (by kernel_rfl) ?_
   simp (disch:=first|assumption|(push_cast<;>omega)|omega) only [go_sem]
  rw [if_neg (fun k=>k h1)]at hR
  simp (disch:=first|assumption|(push_cast<;>omega)|omega) only [go_sem]
  refine AXc.introP (fun h2=>?_) (fun h2=>?_)
  ·rw [if_pos h2]at hR
   rw [hR]
   simp (disch:=first|assumption|(push_cast<;>omega)|omega) only [go_sem]
  rw [if_neg h2]at hR
  rw [hR]
  clear hR t2 p1
  by_cases hz:z2=[]
  ·subst hz
   simp (disch:=first|assumption|(push_cast<;>omega)|omega) only [go_sem,znF]
   refine AXs.rounds mixed zh zli [] (by kernel_rfl) ?_
   simp (disch:=first|assumption|(push_cast<;>omega)|omega) only [go_sem]
   refine AXa.go mixed (zh) (zli) (by kernel_rfl) ?_
   simp (disch:=first|assumption|(push_cast<;>omega)|omega) only [go_sem]
   refine AXk.intro (by kernel_rfl) ?_
   simp (disch:=first|assumption|(push_cast<;>omega)|omega) only [go_sem]
  ·obtain⟨nm,hnm⟩:∃ nm,nm=z2.map fun t=>T.getD t []:=⟨_,rfl⟩
   have hnl:nm.length=z2.length:=by rw [hnm,List.length_map]
   have hna:∀ i,i<z2.length→nm.take (i+1)=nm.take i++[T.getD (z2.getD i 0) []]:=fun i hi=>by
    have e:z2.getD i 0=z2[i]:=by rw [List.getD_eq_getElem?_getD,List.getElem?_eq_getElem hi];rfl
    rw [List.take_add_one,hnm,List.getElem?_map,List.getElem?_eq_getElem hi,e];rfl
   rw [←hnm]
   simp (disch:=first|assumption|(push_cast<;>omega)|omega) only [go_sem,zlp hz]
   refine AXs.loop mixed (zh) (zli) (fun i:Nat=>[(2,.fp [.fs (strs T) T.length,.fs (strs W) W.length,.fs (zI N) N.length,.fs (zI E) E.length]),(4,slQ 1 (nm.take i)),(9,.ptr 0 0),(42,.fs (nats .i64 z2) z2.length),(43,.int .i64 z2.length),(44,.int .i64 i)])
    (fun i=>⟨blkQ 1 (nm.take i) [(0,.cells [.str z1,.fs (nats .i64 z2) z2.length])],2⟩) (fun i=>i≤z2.length) (fun i=>z2.length - i) 0 (by kernel_rfl) (Nat.zero_le _) (Sub.of0 [(0,2)] rfl rfl ?_ ?_) ?_
   ·simp only [go_sem,List.take_zero,zjM]
   ·simp only [go_sem,List.take_zero,zgC]
   intro i k1
   simp (disch:=first|assumption|(push_cast<;>omega)|omega) only [go_sem]
   refine AXc.introP (fun k2=>?_) (fun k2=>?_)
   ·have hi:i<z2.length:=by omega
    have ha:=hna i hi
    have hti:=htags _ (show z2.getD i 0∈z2 by rw [List.getD_eq_getElem?_getD,List.getElem?_eq_getElem hi];exact List.getElem_mem _)
    have hal:(nm.take i).length=i:=by simp;omega
    generalize nm.take i=acc at ha hal ⊢
    have nn:acc++[T.getD (z2.getD i 0) []]≠[]:=by simp
    have nl:(acc++[T.getD (z2.getD i 0) []]).length=acc.length+1:=by simp
    have tk:List.take acc.length acc=acc:=List.take_length
    by_cases ne:acc=[]
    ·subst ne
     rw [List.nil_append]at ha nn
     simp (disch:=first|assumption|(push_cast<;>omega)|omega) only [go_sem,zjM,zgC]
     (repeat refine sdC ?_)
     refine zk (i+1) (by omega) (by omega) ?_
     rw [ha,zfV 1 nn,zd5 1 nn]
     refine Sub.of0 [(0,0),(1,3)] rfl rfl ?_ ?_
     ·simp only [go_sem]
      simp
     ·simp only [go_sem]
      rfl
    ·simp (disch:=first|assumption|(push_cast<;>omega)|omega) only [go_sem,zfV 1 ne,zd5 1 ne]
     (repeat refine sdC ?_)
     refine zk (i+1) (by omega) (by omega) ?_
     rw [ha,zfV 1 nn,zd5 1 nn,nl]
     refine Sub.of0 [(0,0),(1,3)] rfl rfl ?_ ?_
     ·simp only [go_sem]
      simp
     ·simp only [go_sem,tk]
   ·obtain rfl:i=z2.length:=by omega
    rw [←hnl,List.take_length]
    by_cases ne:nm=[]
    ·exact absurd (List.eq_nil_of_length_eq_zero (by rw [←hnl,ne];rfl)) hz
    ·simp (disch:=first|assumption|(push_cast<;>omega)|omega) only [go_sem,zfV 1 ne,zd5 1 ne]
     refine AXa.go mixed (zh) (zli) (by kernel_rfl) ?_
     simp (disch:=first|assumption|(push_cast<;>omega)|omega) only [go_sem]
     refine AXk.intro (by kernel_rfl) ?_
     simp (disch:=first|assumption|(push_cast<;>omega)|omega) only [go_sem]
     exact zqx nm rfl
end Go.Proofs

namespace Go.Proofs
open Go.Ab Go.Cnt Go.Pl Go.Tg
set_option maxHeartbeats 4000000 in
theorem zvq(a b:List Str)(ha:a.length≤1000000)(hb:b.length≤1000000):PCall Tryz.prog 20 [.fs (strs a) a.length,.fs (strs b) b.length] (.ret (.bool (decide (a=b)))):=by
 obtain⟨R,hR⟩:∃ R,R=decide (a=b):=⟨_,rfl⟩;rw [←hR];refine PCall.walk (rs:=[.tmp 4]) [0,1,4,5,10,14,25] [] mixed (zh) (zf) call20 Tryz.func20 rfl Tryz.ntmps20 rfl (by kernel_rfl) (by simp) (by simp [push_cast]) ?_;simp (disch:=first|assumption|(push_cast<;>omega)|omega) only [go_sem];refine AXc.introN (fun h1=>?_) (fun h1=>?_)
 ·rw [hR,decide_eq_false (fun h=>h1 (by rw [h]))];simp (disch:=first|assumption|(push_cast<;>omega)|omega) only [go_sem]
 have hlen:a.length=b.length:=by omega
 simp (disch:=first|assumption|(push_cast<;>omega)|omega) only [go_sem];refine AXs.loop mixed (zh) (zf) (fun i:Nat=>[(0,.fs (strs a) a.length),(1,.fs (strs b) b.length),(5,.int .i64 i)]) (fun _=>⟨[],0⟩) (fun i=>i≤a.length∧∀ j,j<i→a.getD j []=b.getD j []) (fun i=>a.length - i) 0 (by kernel_rfl) ⟨Nat.zero_le _,fun j hj=>by omega⟩ (Sub.of0 [] rfl rfl ?_ ?_) ?_
 ·simp only [go_sem]
 ·simp only [go_sem]
 rintro i ⟨h2,h3⟩;simp (disch:=first|assumption|(push_cast<;>omega)|omega) only [go_sem];refine AXc.introP (fun h4=>?_) (fun h4=>?_)
 ·have hi:i<a.length:=by omega
  simp (disch:=first|assumption|(push_cast<;>omega)|omega) only [go_sem]
  (repeat refine sdC ?_);refine AXc.introN (fun h5=>?_) (fun h5=>?_)
  ·rw [hR,decide_eq_false (fun h=>h5 (by rw [h]))];simp (disch:=first|assumption|(push_cast<;>omega)|omega) only [go_sem]
  ·simp (disch:=first|assumption|(push_cast<;>omega)|omega) only [go_sem];refine zk (i+1) ⟨by omega,fun j hj=>?_⟩ (by omega) (Sub.of0 [] rfl rfl ?_ ?_)
   ·by_cases hji:j<i
    ·exact h3 j hji
    ·obtain rfl:j=i:=by omega
     exact h5
   ·simp only [go_sem];simp
   ·simp only [go_sem]
 ·obtain rfl:i=a.length:=by omega
  have he:a=b:=by refine List.ext_getElem hlen fun j h1 h2=>?_;have:=h3 j h1;rw [List.getD_eq_getElem?_getD,List.getElem?_eq_getElem h1,List.getD_eq_getElem?_getD,List.getElem?_eq_getElem h2]at this;exact this
  rw [hR,decide_eq_true he];simp (disch:=first|assumption|(push_cast<;>omega)|omega) only [go_sem];refine AXa.go mixed (zh) (zf) (by kernel_rfl) ?_;simp (disch:=first|assumption|(push_cast<;>omega)|omega) only [go_sem]
noncomputable def zyO:List V→Option PR:=zB (fun p:List Str×List Str=>[.fs (strs p.1) p.1.length,.fs (strs p.2) p.2.length]) (fun p=>p.1.length≤1000000∧p.2.length≤1000000) fun p=>.ret (.bool (decide (p.1=p.2)))
theorem ztX(a b:List Str)(ha:a.length≤1000000)(hb:b.length≤1000000):zyO [.fs (strs a) a.length,.fs (strs b) b.length]=some (.ret (.bool (decide (a=b)))):=
 zo (pat:=fun p:List Str×List Str=>[.fs (strs p.1) p.1.length,.fs (strs p.2) p.2.length]) (fun x y h=>by simp only [List.cons.injEq,V.fs.injEq,and_true]at h;exact Prod.ext (zas h.1.1) (zas h.2.1)) (a,b) ⟨ha,hb⟩
theorem ztW:∀ args r,zyO args=some r→PCall Tryz.prog 20 args r:=zn fun p h=>zvq p.1 p.2 h.1 h.2
def okN(n:Nat)(x:TL):Prop:=∀ t∈x.2,t<n
theorem zra {n:Nat}{x y:TL}(hx:okN n x)(hy:okN n y):okN n (betT x y):=by unfold betT;split<;>assumption
theorem zvk {n:Nat}{f:Int}{u:TL}{j:List Nat}{q:Str}(hu:okN n u)(hj:∀ t∈j,t<n):okN n (stL f u j q).1:=by
 unfold stL;split
 ·intro t h;cases h
 ·intro t h;rcases List.mem_append.1 h with h|h
  ·exact hu t h
  ·exact hj t h
theorem zp0 {m:Mdl}{bef:Nat→Option TL}(hb:∀ i u,bef i=some u→okN m.tags.length u){j:Nat}(hj:j<m.tags.length)(c:Nat)(f:Int):∀ k,okN m.tags.length (row1 stL plL m z48 bef j c f k).1
 |0=>fun t h=>by cases h
 |k+1=>by
  have ih:=zp0 (m:=m) hb hj c f k;rw [row1];cases h:bef k with
  |none=>exact ih
  |some u=>exact zra ih (zvk (hb k u h) (fun t ht=>by rw [List.mem_singleton.1 ht];exact hj))
theorem zpZ {m:Mdl}{bef:Nat→Option TL}(hb:∀ i u,bef i=some u→okN m.tags.length u)(c:Nat)(f:Int):∀ k,k≤m.tags.length→∀ x∈(rowK stL plL m z48 bef c f k).1,okN m.tags.length x
 |0,_,x,h=>by cases h
 |k+1,hk,x,h=>by
  rw [rowK]at h;rcases List.mem_append.1 h with h|h
  ·exact zpZ hb c f k (by omega) x h
  ·rw [List.mem_singleton.1 h];exact zp0 hb (by omega) _ _ _
theorem zrg {m:Mdl}{t:Nat}{l:List TL}(h:∀ x∈l,okN m.tags.length x):∀ i u,befT m o49 t l i=some u→okN m.tags.length u:=by
 intro i u e;unfold befT at e;split at e
 ·split at e
  ·cases e;intro t h;cases h
  ·cases e
 ·exact h u (List.mem_of_getElem? e)
theorem zqw(m:Mdl)(cs:List Nat):∀ t,∀ x∈(fwdT stL plL m z48 o49 cs t).1,okN m.tags.length x
 |0,x,h=>by cases h
 |t+1,x,h=>zpZ (zrg (zqw m cs t)) _ _ _ (Nat.le_refl _) x h
theorem zqz {m:Mdl}{bef:Nat→Option TL}(hb:∀ i u,bef i=some u→okN m.tags.length u)(f:Int):∀ k,okN m.tags.length (fin1 stL plL m z48 bef f k).1
 |0=>fun t h=>by cases h
 |k+1=>by
  have ih:=zqz (m:=m) hb f k;rw [fin1];cases h:bef k with
  |none=>exact ih
  |some u=>exact zra ih (zvk (hb k u h) (fun t ht=>by cases ht))
theorem finT_okN(m:Mdl)(cs:List Nat):okN m.tags.length (finT stL plL m z48 o49 cs).1:=zqz (zrg (zqw m cs cs.length)) _ _
theorem finT_len(m:Mdl)(cs:List Nat):(finT stL plL m z48 o49 cs).1.2.length≤cs.length+1:=(zgy (m:=m) (zfm (m:=m) (t:=cs.length) (zfb m cs cs.length)) _ _).2
def TagOK(p:Mdl×List Str):Prop:=Fit p.1∧p.2.length≤1000∧∀ i j,(nx p.1 i j).length≤1000000000∧(em p.1 i j).length≤1000000000
noncomputable def tagV(r:(List Str×Str)×Int):V:=.tup [.fs (strs r.1.1) r.1.1.length,.str r.1.2,.int .i64 r.2]
noncomputable def cTag36:List V→Option PR:=zB (fun p:Mdl×List Str=>[mdlV p.1,.fs (strs p.2) p.2.length]) TagOK fun p=>.ret (tagV (tagR p.1 p.2))
theorem zyI(m:Mdl)(ws:List Str)(h:TagOK (m,ws)):cTag36 [mdlV m,.fs (strs ws) ws.length]=some (.ret (tagV (tagR m ws))):=
 zo (pat:=fun p:Mdl×List Str=>[mdlV p.1,.fs (strs p.2) p.2.length]) zp9 (m,ws) h
theorem zyH:∀ args r,cTag36 args=some r→PCall Tryz.prog 13 args r:=zn fun p h=>tag_ok p.1 p.2 h.1 h.2.1 h.2.2 fun _=>finT_okN p.1 _
theorem tagR_len(m:Mdl)(ws:List Str)(hw:ws.length≤1000):(tagR m ws).1.1.length≤1001:=by
 unfold tagR;split
 ·simp
 ·split
  ·simp
  ·split
   ·simp
   ·have:=finT_len m (zq m ws);have e:(zq m ws).length=ws.length:=by simp [zq]
    rw [List.length_map];omega
end Go.Proofs
