/- Tag. -/
import Derived.Test.YthbimeikbkjnkaaGreatDoorCAbMapS
set_option linter.all false
set_option maxHeartbeats 16000000
set_option maxRecDepth 100000
namespace Go.Proofs
open Tryz Go.Ab Go.Cnt Go.Pl Go.Tg
theorem NCall.drop2 {f:FuncId}{args:List V}{F:List Blk}{v:V}{r:Run}{X:Blk}{n:Nat}(hF:F.length=2)(hN:NCall prog f args F [0] v ⟨[(2,X),(0,.cells (runC r)),(1,.cells [.ptr 0 0])],n⟩)(hv:Pure v):
 NCall prog f args F [0] v ⟨[(0,.cells (runC r)),(1,.cells [.ptr 0 0])],2⟩:=by
 have hl:∀ b,b<2→([(2,X)]:List (Nat×Blk)).lookup b=none:=fun b hb=>by
  rcases b with _|_|b
  ·rfl
  ·rfl
  ·omega
 refine hN.freeze [] (fun b hb=>by cases hb) (fun b hb=>?_) (.inr (.pure hv)) (fun b x' e=>?_) (fun b hb=>?_) (by rw [hF];exact Nat.le_refl _)
 ·rw [List.mem_singleton.1 hb]
  exact⟨_,rfl⟩
 ·obtain⟨hb,e2⟩:=zvi (n:=n) hl b x' e
  refine⟨hb,by simp,x',e2,.inl ?_⟩
  have e':([(0,Blk.cells (runC r)),(1,.cells [.ptr 0 0])]:List (Nat×Blk)).lookup b=some x':=e
  rcases b with _|_|b
  ·cases e';exact .cells (zA (za3 _))
  ·cases e';exact .cells (zbl (r:=[]) ⟨by simp,by show 0<2;omega⟩ rfl (by simp))
  ·omega
 ·rw [hF]at hb
  rcases b with _|_|b
  ·rfl
  ·rfl
  ·omega
theorem HCall.two {f:FuncId}{args args':List V}{v:V}{s s':Run}(hN:NCall prog f args [.cells (runC s),.cells [.ptr 0 0]] [0] v ⟨[(0,.cells (runC s')),(1,.cells [.ptr 0 0])],2⟩)(hv:Pure v)(b c:Nat)(H:Hp)
 (ha:LRel (Rn (fun i=>[b,c].getD i 0) (· <2)) args args') (hne:b≠c) (hb:H.get b=some (.cells (runC s))) (hc:H.get c=some (.cells [.ptr b 0])) (hk:∀ b x,H.get b=some x→b<H.next):
 HCall prog f args' H ⟨True,v,H.put b (.cells (runC s')),[b,c],[b]⟩:=by
 have tb:zK [b,c] H.next b=0:=by unfold zK;rw [if_pos (hk b _ hb)];simp
 have tc:zK [b,c] H.next c=1:=by unfold zK;rw [if_pos (hk c _ hc)];exact idx1 hne
 refine HCall.of hN [b,c] args' v H _ rfl (by simpa using hne) ha (fun i x hx=>?_) (.same hv) rfl (fun b' x' hx'=>?_) (fun b' hb' hw=>?_)
 ·match i with
  |0=>cases hx;exact⟨b,_,rfl,hb,.cells (zA (za3 s))⟩
  |1=>cases hx;exact⟨c,_,rfl,hc,.cells (zbl (π:=fun i=>[b,c].getD i 0) (b:=0) (r:=[]) (Nat.zero_lt_succ _) rfl (by simp))⟩
  |i+2=>simp at hx
 ·rw [Hp.get_put]at hx'
  split at hx'
  ·rename_i he
   subst he
   rw [hb]at hx'
   cases hx'
   refine .inr ⟨.inl (by simp),.cells (runC s'),?_,.cells (zA (za3 _))⟩
   rw [tb];rfl
  ·rename_i he
   by_cases h2:b'=c
   ·subst h2
    rw [hc]at hx'
    cases hx'
    refine .inr ⟨.inl (by simp),.cells [.ptr 0 0],by rw [tc];rfl,.cells ?_⟩
    exact zbl (r:=[]) (.inl (by simp)) tb (by simp)
   ·exact .inl ⟨hk b' _ hx',by simp [he,h2],hx'⟩
 ·rw [Hp.get_put,if_neg (by simpa using hw)]
structure RunOK(m:Mdl)(cs:List Nat):Prop where
 v:vmB m=true
 f:Fit m
 l:cs.length≤1000
 c:∀ i,i<cs.length→cs.getD i 0≤m.words.length
 s:∀ i j,(nx m i j).length≤1000000000∧(em m i j).length≤1000000000
def FwdLR(args:List V)(H:Hp)(r:AR):Prop:=∃(c b:Nat) (m:Mdl) (cs:List Nat),args=[.ptr b 0,tlV o49,tlV z48,.fn 37 [.ptr c 0],.fn 40 []]∧b≠c∧H.get b=some (.cells (runC ⟨m,cs,0⟩))∧H.get c=some (.cells [.ptr b 0])∧
 (∀ b x,H.get b=some x→b<H.next)∧RunOK m cs∧r=⟨True,tlV (finT stL plL m z48 o49 cs).1,H.put b (.cells (runC ⟨m,cs,(finT stL plL m z48 o49 cs).2⟩)),[b,c],[b]⟩
theorem fwdLR_ok:∀ args H r,FwdLR args H r→HCall prog 39 args H r:=by
 rintro args H r ⟨c,b,m,cs,rfl,hne,hb,hc,hk,⟨h1,h2,h3,h4,h5⟩,rfl⟩;refine HCall.two (NCall.drop2 rfl (fwdL_N m cs h1 h2 h3 h4 h5) (zba _)) (zba _) b c H ?_ hne hb hc hk;refine⟨rfl,fun i x y hx hy=>?_⟩;match i with
 |0=>cases hx;cases hy;exact .ptr (π:=fun i=>[b,c].getD i 0) (b:=0) (Nat.zero_lt_succ _)
 |1=>cases hx;cases hy;exact .same (zba _)
 |2=>cases hx;cases hy;exact .same (zba _)
 |3=>
  cases hx;cases hy;refine .fn rfl fun i x y hx hy=>?_;match i with
  |0=>cases hx;cases hy;exact .ptr (π:=fun i=>[b,c].getD i 0) (b:=1) (Nat.lt_succ_self _)
  |i+1=>simp at hx
 |4=>cases hx;cases hy;exact .fn rfl fun i x y hx hy=>by simp at hx
 |i+5=>simp at hx
noncomputable def ΔG:FuncId→List V→Hp→Option AR:=zbJ 33 (conD znL) (zbJ 39 (conD FwdLR) noΔ)
theorem zlz:zaT prog ΔG:=zV (zaq zg7) (zV (zaq fwdLR_ok) zg)
theorem ΔG_fwd {m:Mdl}{cs:List Nat}{bs:List (Nat×Blk)}{n b c:Nat}(hne:b≠c)(hb:zar bs b=some (.cells (runC ⟨m,cs,0⟩)))(hc:zar bs c=some (.cells [.ptr b 0]))(hk:((keysB bs).all fun b=>decide (b<n))=true)(ho:RunOK m cs):
 ΔG 39 [.ptr b 0,tlV o49,tlV z48,.fn 37 [.ptr c 0],.fn 40 []] ⟨bs,n⟩=
  some ⟨True,tlV (finT stL plL m z48 o49 cs).1,(⟨bs,n⟩:Hp).put b (.cells (runC ⟨m,cs,(finT stL plL m z48 o49 cs).2⟩)),[b,c],[b]⟩:=by
 refine zaD (R:=FwdLR) ⟨c,b,m,cs,rfl,hne,by rw [zaL];exact hb,by rw [zaL];exact hc,zbp hk,ho,rfl⟩ fun r' ⟨c',b',m',cs',e1,_,e2,e3,_,_,e4⟩=>?_
 simp only [List.cons.injEq,V.ptr.injEq,V.fn.injEq,and_true,true_and]at e1
 obtain⟨rfl,rfl⟩:=e1
 rw [zaL,hb]at e2
 simp only [Option.some.injEq,Blk.cells.injEq]at e2
 have:=zcI e2
 simp only [Run.mk.injEq,and_true]at this
 obtain⟨rfl,rfl⟩:=this
 exact e4
def slQ(b:Nat)(l:List Str):V:=if l=[]then .nilS else .sl b 0 l.length 1 none
def blkQ(b:Nat)(l:List Str)(r:List (Nat×Blk)):List (Nat×Blk):=if l=[]then r else(b,.cells (strs l))::r
theorem zvP(b:Nat):slQ b []=.nilS:=rfl
theorem zrv(b:Nat)(r:List (Nat×Blk)):blkQ b [] r=r:=rfl
theorem zqm(b:Nat){l:List Str}(h:l≠[]):slQ b l=.sl b 0 l.length 1 none:=if_neg h
theorem zll(b:Nat){l:List Str}(h:l≠[])(r:List (Nat×Blk)):blkQ b l r=(b,.cells (strs l))::r:=if_neg h
theorem frz_strs {H:Hp}{b:Nat}(l:List Str)(hg:H.get b=some (.cells (strs l))):Frz H (.sl b 0 l.length 1 none) (.fs (strs l) l.length):=by refine .sl hg (by simp [strs]) (by simp [strs]) fun i x y hx hy=>?_;rw [List.drop_zero,Nat.mul_one,List.take_of_length_le (by simp [strs])]at hx;rw [hx]at hy;cases hy;exact .pure (zae _ _ (List.mem_of_getElem? hx))
noncomputable def tagR(m:Mdl)(ws:List Str):(List Str×Str)×Int:=
 if (vmB m&&zci ws)=false then(([],[]),1)else
 if (finT stL plL m z48 o49 (zq m ws)).2≠0 then(([],[]),(finT stL plL m z48 o49 (zq m ws)).2)else
 if (finT stL plL m z48 o49 (zq m ws)).1.1=[48]then(([],[]),4)else
 (((finT stL plL m z48 o49 (zq m ws)).1.2.map fun t=>m.tags.getD t [],(finT stL plL m z48 o49 (zq m ws)).1.1),0)
theorem tag_ok(m:Mdl)(ws:List Str)(hf:Fit m)(hw:ws.length≤1000)(hl:∀ i j,(nx m i j).length≤1000000000∧(em m i j).length≤1000000000)(htags:vmB m=true→∀ t∈(finT stL plL m z48 o49 (zq m ws)).1.2,t<m.tags.length):
 PCall prog 13 [mdlV m,.fs (strs ws) ws.length] (.ret (.tup [.fs (strs (tagR m ws).1.1) (tagR m ws).1.1.length,.str (tagR m ws).1.2,.int .i64 (tagR m ws).2])):=by
 have p1:ΔG 33 [mdlV m,.fs (strs ws) ws.length] ⟨[],0⟩=_:=zg8 m ws hf (by omega)
 obtain⟨R,hR⟩:∃ R,R=tagR m ws:=⟨_,rfl⟩
 rw [←hR]
 unfold tagR at hR
 have hlen:(zq m ws).length=ws.length:=by simp [zq]
 have hcc:∀ i,i<(zq m ws).length→(zq m ws).getD i 0≤m.words.length:=fun i hi=>by rw [zfo m ws i (by omega)];exact zdY _ _
 have hok:vmB m=true→RunOK m (zq m ws):=fun h=>⟨h,hf,by omega,hcc,hl⟩
 refine PCall.walk (rs:=[.tmp 4,.tmp 5,.tmp 6]) [0,1,2,4,5,6,7,8,9,11,19,27,37,42,43,44,45] [25] mixed (zh) (zlz) call13 func13 rfl ntmps13 rfl (by kernel_rfl) (by simp) (by simp [push_cast,zdp]) ?_
 have t1:=fun h=>ΔG_fwd (m:=m) (cs:=zq m ws) (bs:=[(1,.cells [.ptr 0 0]),(0,.cells (runC ⟨m,zq m ws,0⟩))]) (n:=2) (b:=0) (c:=1) (by decide) rfl rfl rfl (hok h)
 cases hb:(vmB m&&zci ws)with
 |false=>
  rw [hb,if_neg (by simp)]at p1
  rw [if_pos hb]at hR
  rw [hR]
  clear t1 hok hcc hlen htags hR
  obtain⟨T,W,N,E⟩:=m
  unfold mdlV at p1 ⊢
  dsimp only at p1 ⊢
  simp (disch:=first|assumption|(push_cast<;>omega)|omega) only [go_sem,p1]
 |true=>
  have hvm:vmB m=true:=by simp only [Bool.and_eq_true]at hb;exact hb.1
  rw [hb,if_pos rfl]at p1
  rw [if_neg (by rw [hb];simp)]at hR
  replace htags:=htags hvm
  replace t1:=t1 hvm
  generalize zq m ws=cs at*
  have hzl:(finT stL plL m z48 o49 cs).1.2.length≤cs.length+1:=(zfk (m:=m) (zer (m:=m) (t:=cs.length) (zeo m cs cs.length)) _ _).2
  generalize finT stL plL m z48 o49 cs=z at t1 hR htags hzl
  obtain⟨⟨z1,z2⟩,z3⟩:=z
  dsimp only at t1 hR htags hzl
  rw [tlV_o,tlV_z,zeZ]at t1
  have t2:ΔG 39 [.ptr 0 0,.agg [.str [49],.nilS],.agg [.str [48],.nilS],.fn 37 [.ptr 1 0],.fn 40 []] ⟨[(1,.cells [.ptr 0 0]),(0,.cells (runC ⟨m,cs,0⟩))],2⟩=some ⟨True,.agg [.str z1,tgV z2],⟨[(1,.cells [.ptr 0 0]),(0,.cells (runC ⟨m,cs,z3⟩))],2⟩,[0,1],[0]⟩:=t1
  clear t1
  obtain⟨T,W,N,E⟩:=m
  unfold mdlV at p1 ⊢
  unfold runC at p1 t2
  dsimp only at p1 t2 htags hR ⊢
  simp (disch:=first|assumption|(push_cast<;>omega)|omega) only [go_sem,p1,t2]
  refine AXc.introN (fun h1=>?_) (fun h1=>?_)
  ·rw [if_pos h1]at hR
   rw [hR]
   simp (disch:=first|assumption|(push_cast<;>omega)|omega) only [go_sem]
   refine AXk.intro (by kernel_rfl) ?_
   simp (disch:=first|assumption|(push_cast<;>omega)|omega) only [go_sem]
  rw [if_neg (fun k=>k h1)]at hR
  simp (disch:=first|assumption|(push_cast<;>omega)|omega) only [go_sem]
  refine AXc.introP (fun h2=>?_) (fun h2=>?_)
  ·rw [if_pos h2]at hR
   rw [hR]
   simp (disch:=first|assumption|(push_cast<;>omega)|omega) only [go_sem]
  rw [if_neg h2]at hR
  rw [hR]
  clear hR t2 p1
  by_cases hz:z2=[]
  ·subst hz
   simp (disch:=first|assumption|(push_cast<;>omega)|omega) only [go_sem,zn0]
   refine AXs.rounds mixed zh zlz [] (by kernel_rfl) ?_
   simp (disch:=first|assumption|(push_cast<;>omega)|omega) only [go_sem]
   refine AXa.go mixed (zh) (zlz) (by kernel_rfl) ?_
   simp (disch:=first|assumption|(push_cast<;>omega)|omega) only [go_sem]
   refine AXk.intro (by kernel_rfl) ?_
   simp (disch:=first|assumption|(push_cast<;>omega)|omega) only [go_sem]
  ·obtain⟨nm,hnm⟩:∃ nm,nm=z2.map fun t=>T.getD t []:=⟨_,rfl⟩
   have hnl:nm.length=z2.length:=by rw [hnm,List.length_map]
   have hna:∀ i,i<z2.length→nm.take (i+1)=nm.take i++[T.getD (z2.getD i 0) []]:=fun i hi=>by
    have e:z2.getD i 0=z2[i]:=by rw [List.getD_eq_getElem?_getD,List.getElem?_eq_getElem hi];rfl
    rw [List.take_add_one,hnm,List.getElem?_map,List.getElem?_eq_getElem hi,e];rfl
   rw [←hnm]
   simp (disch:=first|assumption|(push_cast<;>omega)|omega) only [go_sem,zlF hz]
   refine AXs.loop mixed (zh) (zlz) (fun i:Nat=>[(2,.fp [.fs (strs T) T.length,.fs (strs W) W.length,.fs (zu N) N.length,.fs (zu E) E.length]),(4,slQ 1 (nm.take i)),(9,.ptr 0 0),(42,.fs (nats .i64 z2) z2.length),(43,.int .i64 z2.length),(44,.int .i64 i)])
    (fun i=>⟨blkQ 1 (nm.take i) [(0,.cells [.str z1,.fs (nats .i64 z2) z2.length])],2⟩) (fun i=>i≤z2.length) (fun i=>z2.length - i) 0 (by kernel_rfl) (Nat.zero_le _) (Sub.of0 [(0,2)] rfl rfl ?_ ?_) ?_
   ·simp only [go_sem,List.take_zero,zvP]
   ·simp only [go_sem,List.take_zero,zrv]
   intro i k1
   simp (disch:=first|assumption|(push_cast<;>omega)|omega) only [go_sem]
   refine AXc.introP (fun k2=>?_) (fun k2=>?_)
   ·have hi:i<z2.length:=by omega
    have ha:=hna i hi
    have hti:=htags _ (show z2.getD i 0∈z2 by rw [List.getD_eq_getElem?_getD,List.getElem?_eq_getElem hi];exact List.getElem_mem _)
    have hal:(nm.take i).length=i:=by simp;omega
    generalize nm.take i=acc at ha hal ⊢
    have nn:acc++[T.getD (z2.getD i 0) []]≠[]:=by simp
    have nl:(acc++[T.getD (z2.getD i 0) []]).length=acc.length+1:=by simp
    have tk:List.take acc.length acc=acc:=List.take_length
    by_cases ne:acc=[]
    ·subst ne
     rw [List.nil_append]at ha nn
     simp (disch:=first|assumption|(push_cast<;>omega)|omega) only [go_sem,zvP,zrv]
     (repeat refine sdC ?_)
     refine zk (i+1) (by omega) (by omega) ?_
     rw [ha,zqm 1 nn,zll 1 nn]
     refine Sub.of0 [(0,0),(1,3)] rfl rfl ?_ ?_
     ·simp only [go_sem]
      simp
     ·simp only [go_sem]
      rfl
    ·simp (disch:=first|assumption|(push_cast<;>omega)|omega) only [go_sem,zqm 1 ne,zll 1 ne]
     (repeat refine sdC ?_)
     refine zk (i+1) (by omega) (by omega) ?_
     rw [ha,zqm 1 nn,zll 1 nn,nl]
     refine Sub.of0 [(0,0),(1,3)] rfl rfl ?_ ?_
     ·simp only [go_sem]
      simp
     ·simp only [go_sem,tk]
   ·obtain rfl:i=z2.length:=by omega
    rw [←hnl,List.take_length]
    by_cases ne:nm=[]
    ·exact absurd (List.eq_nil_of_length_eq_zero (by rw [←hnl,ne];rfl)) hz
    ·simp (disch:=first|assumption|(push_cast<;>omega)|omega) only [go_sem,zqm 1 ne,zll 1 ne]
     refine AXa.go mixed (zh) (zlz) (by kernel_rfl) ?_
     simp (disch:=first|assumption|(push_cast<;>omega)|omega) only [go_sem]
     refine AXk.intro (by kernel_rfl) ?_
     simp (disch:=first|assumption|(push_cast<;>omega)|omega) only [go_sem]
     exact frz_strs nm rfl
end Go.Proofs

namespace Go.Ab
variable {C:Cfg}{P:Program}{env:Env}{H:Hp}
theorem vv_bnd(f:FuncId)(cs:List V):V.val (.bnd f cs)=.bnd f cs:=rfl
theorem vc_bnd(f:FuncId)(cs:List V):V.cond (.bnd f cs)=True:=rfl
theorem zy1(f:FuncId)(fs l:List V)(nd:Prop):callF C (.bnd f fs) l nd H=zcg C f (fs++l) nd H:=rfl
theorem nz_bnd(f:FuncId)(cs:List V):nz (.bnd f cs)=.bnd f cs:=rfl
theorem nil_bnd(f:FuncId)(cs:List V):aNil (.bnd f cs) H=⟨True,.bnd f cs,H,[],[]⟩:=rfl
theorem lend_bnd(f:FuncId)(cs:List V):lend H (.bnd f cs)=.bnd f cs:=rfl
theorem zwb(f:FuncId)(cs:List V):zdl (.bnd f cs)=[]:=rfl
theorem zn7(f:FuncId)(x:Operand)(xs:List Operand):step1 C P env (.makeFunc (.func f) ⟨x::xs⟩ ⟨[]⟩) H=mkSR true (conds env (x::xs)) (.val H (.bnd f (vals env (x::xs)))) H:=by rw [←vals_eq, ←zgH];exact zX rfl (by simp [Op.operands]) rfl
theorem rn_bnd {π:Nat→Nat}{N:Nat→Prop}(f f':FuncId)(cs cs':List V):Rn π N (.bnd f cs) (.bnd f' cs')↔f'=f∧LRel (Rn π N) cs cs':=by
 constructor
 ·intro h;cases h with
  |same h=>cases h
  |bnd hl h=>exact⟨rfl,hl,h⟩
 ·rintro⟨rfl,h⟩;exact .bnd h.1 h.2
attribute [go_sem] vv_bnd vc_bnd zy1 nz_bnd nil_bnd lend_bnd zwb zn7 rn_bnd
end Go.Ab

namespace Go.Proofs
open Tryz Go.Ab Go.Cnt Go.Pl Go.Tg
theorem stS_N(r:Run)(u:Str)(j:Int)(q:Str)(lu:u.length≤1000000000)(lq:q.length≤1000000000):
 NCall prog 42 [.str u,.int .i64 j,.str q,.ptr 1 0] [.cells (runC r),.cells [.ptr 0 0]] [0] (.str (tm r.f u q).1) ⟨[(0,.cells (runC ⟨r.m,r.cs,(tm r.f u q).2⟩)),(1,.cells [.ptr 0 0])],2⟩:=by
 have t1:ΔS 36 [.ptr 0 0,.str u,.str q] ⟨[(0,.cells (runC r)),(1,.cells [.ptr 0 0])],2⟩=some ⟨True,.str (tm r.f u q).1,⟨[(0,.cells (runC ⟨r.m,r.cs,(tm r.f u q).2⟩)),(1,.cells [.ptr 0 0])],2⟩,[0],[0]⟩:=zgL 0 r u q _ 2 lu lq rfl rfl
 refine NCall.walkW (rs:=[.tmp 7]) [0,2,3,7] [] 2 [0] mixed (zh) (zu1) call42 func42 rfl ntmps42 rfl (by kernel_rfl) (by simp) (by simp) (by simp) (by simp) ?_
 simp (disch:=first|assumption|(push_cast<;>omega)|omega) only [go_sem,t1]
 generalize tm r.f u q=z
 obtain⟨z1,z2⟩:=z
 dsimp only
 refine⟨rfl,[(7,.str z1)],Sub.of [] rfl ?_ ?_ (by decide) (fun b hb hw=>?_),?_⟩
 ·simp only [go_sem]
 ·simp only [go_sem]
 ·rcases b with _|_|b
  ·exact absurd (List.mem_singleton.2 rfl) hw
  ·rfl
  ·exact absurd hb (by simp)
 ·rfl
def zA4(args:List V)(H:Hp)(r:AR):Prop:=∃(c b:Nat) (s:Run) (u:Str) (j:Int) (q:Str),args=[.str u,.int .i64 j,.str q,.ptr c 0]∧b≠c∧H.get b=some (.cells (runC s))∧H.get c=some (.cells [.ptr b 0])∧(∀ b x,H.get b=some x→b<H.next)∧
 (u.length≤1000000000∧q.length≤1000000000)∧r=⟨True,.str (tm s.f u q).1,H.put b (.cells (runC ⟨s.m,s.cs,(tm s.f u q).2⟩)),[b,c],[b]⟩
theorem zvB:∀ args H r,zA4 args H r→HCall prog 42 args H r:=by
 rintro args H r ⟨c,b,s,u,j,q,rfl,hne,hb,hc,hk,⟨l1,l2⟩,rfl⟩;refine HCall.two (s:=s) (s':=⟨s.m,s.cs,(tm s.f u q).2⟩) (stS_N s u j q l1 l2) (.str _) b c H ?_ hne hb hc hk;refine⟨rfl,fun i x y hx hy=>?_⟩;match i with
 |0=>cases hx;cases hy;exact .same (.str _)
 |1=>cases hx;cases hy;exact .same (.int _ _)
 |2=>cases hx;cases hy;exact .same (.str _)
 |3=>cases hx;cases hy;exact .ptr (π:=fun i=>[b,c].getD i 0) (b:=1) (Nat.lt_succ_self _)
 |i+4=>simp at hx
theorem zvC {b c:Nat}{s:Run}{u:Str}{j:Int}{q:Str}{bs:List (Nat×Blk)}{n:Nat}(hne:b≠c)(hb:zar bs b=some (.cells (runC s)))(hc:zar bs c=some (.cells [.ptr b 0]))(hk:((keysB bs).all fun b=>decide (b<n))=true)
 (l1:u.length≤1000000000) (l2:q.length≤1000000000):
 conD zA4 [.str u,.int .i64 j,.str q,.ptr c 0] ⟨bs,n⟩=some ⟨True,.str (tm s.f u q).1,(⟨bs,n⟩:Hp).put b (.cells (runC ⟨s.m,s.cs,(tm s.f u q).2⟩)),[b,c],[b]⟩:=by
 refine zaD ⟨c,b,s,u,j,q,rfl,hne,by rw [zaL];exact hb,by rw [zaL];exact hc,zbp hk,⟨l1,l2⟩,rfl⟩ fun r' ⟨c',b',s',u',j',q',e1,_,e2,e3,_,_,e4⟩=>?_
 simp only [List.cons.injEq,V.ptr.injEq,V.int.injEq,V.str.injEq,and_true,true_and]at e1
 obtain⟨rfl,rfl,rfl,rfl⟩:=e1
 rw [zaL,hc]at e3
 simp only [Option.some.injEq,Blk.cells.injEq,List.cons.injEq,V.ptr.injEq,and_true]at e3
 subst e3
 rw [zaL,hb]at e2
 simp only [Option.some.injEq,Blk.cells.injEq]at e2
 have:=zcI e2
 subst this
 exact e4
noncomputable def ΔP:FuncId→List V→Hp→Option AR:=zbJ 34 (conD (zA9 zkM)) (zbJ 36 (conD (znN zdG)) (zbJ 43 (conD (znN mPlus)) (zbJ 42 (conD zA4) noΔ)))
theorem zeO:zaT prog ΔP:=zV (zaq (zkJ zkM fun _ r h=>zyk r h)) (zV (zaq (zel zdG fun x r h=>zjT r x.1 x.2 h.1 h.2)) (zV (zaq (zel mPlus fun x r h=>plus_N r x.1 x.2 h.1 h.2)) (zV (zaq zvB) zg)))
theorem ΔP_ends(b:Nat)(r:Run)(bs:List (Nat×Blk))(n:Nat)(h:r.m.tags.length≤1000000)(hb:zar bs b=some (.cells (runC r)))(hk:((keysB bs).all fun b=>decide (b<n))=true):
 ΔP 34 [.ptr b 0] ⟨bs,n⟩=some ⟨True,.int .i64 r.m.tags.length,⟨bs,n⟩,[b],[]⟩:=zkK zkM (x:=()) (s:=r) h hb hk
theorem zu3(b:Nat)(r:Run)(p q:Str)(bs:List (Nat×Blk))(n:Nat)(lp:p.length≤1000000000)(lq:q.length≤1000000000)(hb:zar bs b=some (.cells (runC r)))(hk:((keysB bs).all fun b=>decide (b<n))=true):
 ΔP 36 [.ptr b 0,.str p,.str q] ⟨bs,n⟩=some ⟨True,.str (tm r.f p q).1,(⟨bs,n⟩:Hp).put b (.cells (runC ⟨r.m,r.cs,(tm r.f p q).2⟩)),[b],[b]⟩:=zem zdG (x:=(p,q)) (s:=r) ⟨lp,lq⟩ hb hk
theorem zp6(b:Nat)(r:Run)(p q:Str)(bs:List (Nat×Blk))(n:Nat)(lp:p.length≤1000000000)(lq:q.length≤1000000000)(hb:zar bs b=some (.cells (runC r)))(hk:((keysB bs).all fun b=>decide (b<n))=true):
 ΔP 43 [.ptr b 0,.str p,.str q] ⟨bs,n⟩=some ⟨True,.str (ps r.f p q).1,(⟨bs,n⟩:Hp).put b (.cells (runC ⟨r.m,r.cs,(ps r.f p q).2⟩)),[b],[b]⟩:=zem mPlus (x:=(p,q)) (s:=r) ⟨lp,lq⟩ hb hk
theorem zp5 {b c:Nat}{s:Run}{u:Str}{j:Int}{q:Str}{bs:List (Nat×Blk)}{n:Nat}(hne:b≠c)(hb:zar bs b=some (.cells (runC s)))(hc:zar bs c=some (.cells [.ptr b 0]))(hk:((keysB bs).all fun b=>decide (b<n))=true)
 (l1:u.length≤1000000000) (l2:q.length≤1000000000):
 ΔP 42 [.str u,.int .i64 j,.str q,.ptr c 0] ⟨bs,n⟩=some ⟨True,.str (tm s.f u q).1,(⟨bs,n⟩:Hp).put b (.cells (runC ⟨s.m,s.cs,(tm s.f u q).2⟩)),[b,c],[b]⟩:=zvC hne hb hc hk l1 l2
theorem zhh {m:Mdl}{bef:Nat→Option Str}(j c:Nat)(f:Int):∀ k,(row1 stS plS m [48] bef j c f k).1.length≤1000
 |0=>by simp [row1]
 |k+1=>by
  have ih:=zhh (m:=m) (bef:=bef) j c f k;rw [row1];cases h:bef k with
  |none=>exact ih
  |some u=>dsimp only;rw [zhw];exact ps_len _ _ _
theorem zlW {m:Mdl}{bef:Nat→Option Str}(c:Nat)(f:Int):∀ k,∀ x∈(rowK stS plS m [48] bef c f k).1,x.length≤1000
 |0,x,h=>by simp [rowK]at h
 |k+1,x,h=>by
  rw [rowK]at h;rcases List.mem_append.1 h with h|h
  ·exact zlW c f k x h
  ·rw [List.mem_singleton.1 h];exact zhh _ _ _ _
theorem znw {m:Mdl}{t:Nat}{l:List Str}(h:∀ x∈l,x.length≤1000):∀ i u,befT m [49] t l i=some u→u.length≤1000:=by
 intro i u e;unfold befT at e;split at e
 ·split at e
  ·cases e;simp
  ·cases e
 ·exact h u (List.mem_of_getElem? e)
theorem zmP(m:Mdl)(cs:List Nat):∀ t,∀ x∈(fwdT stS plS m [48] [49] cs t).1,x.length≤1000
 |0,x,h=>by simp [fwdT]at h
 |t+1,x,h=>zlW _ _ _ x h
theorem zhS {m:Mdl}{bef:Nat→Option Str}(f:Int):∀ k,(fin1 stS plS m [48] bef f k).1.length≤1000
 |0=>by simp [fin1]
 |k+1=>by
  have ih:=zhS (m:=m) (bef:=bef) f k;rw [fin1];cases h:bef k with
  |none=>exact ih
  |some u=>dsimp only;rw [zej];exact ps_len _ _ _
theorem znx {m:Mdl}{t:Nat}{l:List Str}{i:Nat}(fst:Str){o:Option Str}(h:befT m fst t l i=o):∃ k,zcl (.int .i64 i) (befE m.tags.length t (.str fst) (l.map V.str)) 0=some (match o with|some u=>some (k,.str u)|none=>none):=by
 unfold befT at h;unfold befE;by_cases ht:t=0
 ·rw [if_pos ht]at h ⊢;rw [zcl,zoY];by_cases hi:i=m.tags.length
  ·rw [if_pos hi]at h;subst h;rw [decide_eq_true (by omega)];exact⟨0,rfl⟩
  ·rw [if_neg hi]at h;subst h;rw [decide_eq_false (by omega)];exact⟨0,rfl⟩
 ·rw [if_neg ht]at h ⊢;rw [zd0 i 0 _ 0 (Nat.zero_le _),Nat.sub_zero,List.getElem?_map,h];cases o with
  |none=>exact⟨0,rfl⟩
  |some u=>exact⟨0+i,rfl⟩
theorem zcs(l:List Str):∀ x∈l.map V.str,Pure x:=fun x h=>by obtain⟨y,_,rfl⟩:=List.mem_map.1 h;exact .str y
abbrev fwS(m:Mdl)(cs:List Nat)(t:Nat):List Str×Int:=fwdT stS plS m [48] [49] cs t
theorem fwdS_N(m:Mdl)(cs:List Nat)(hv:vmB m=true)(hf:Fit m)(hcl:cs.length≤1000)(hc:∀ i,i<cs.length→cs.getD i 0≤m.words.length)(hl:∀ i j,(nx m i j).length≤1000000000∧(em m i j).length≤1000000000):
 NCall prog 41 [.ptr 0 0,.str [49],.str [48],.fn 42 [.ptr 1 0],.bnd 43 [.ptr 0 0]] [.cells (runC ⟨m,cs,0⟩),.cells [.ptr 0 0]] [0]
  (.str (finT stS plS m [48] [49] cs).1) ⟨[(0,.cells (runC ⟨m,cs,(finT stS plS m [48] [49] cs).2⟩)),(1,.cells [.ptr 0 0])],2⟩:=by
 obtain⟨v1,v2,v3,v4,v5,v6⟩:=zjN hv
 have htl:=hf.tl
 have hn:∀ i j,nx m i j=(nthR m.next i).getD j []:=fun i j=>rfl
 have he:∀ i j,em m i j=(nthR m.emit i).getD j []:=fun i j=>rfl
 obtain⟨R,hR⟩:∃ R,R=finT stS plS m [48] [49] cs:=⟨_,rfl⟩
 rw [←hR]
 obtain⟨M,hM⟩:∃ M,M=m:=⟨_,rfl⟩
 rw [←hM]at hR hn he hl
 obtain⟨T,W,N,E⟩:=m
 unfold runC
 dsimp only at v1 v2 v3 v4 hc htl ⊢
 have hMt:M.tags=T:=by rw [hM]
 have hMn:M.next=N:=by rw [hM]
 have hMe:M.emit=E:=by rw [hM]
 rw [hMn]at hn
 rw [hMe]at he
 have hM':=hM
 clear hM
 have qe:∀(bs:List (Nat×Blk)) (n:Nat) (f:Int),zar bs 0=some (.cells [.fs (strs T) T.length,.fs (strs W) W.length,.fs (zu N) N.length,.fs (zu E) E.length,.fs (nats .i64 cs) cs.length,.int .i64 f])→((keysB bs).all fun b=>decide (b<n))=true→ΔP 34 [.ptr 0 0] ⟨bs,n⟩=some ⟨True,.int .i64 T.length,⟨bs,n⟩,[0],[]⟩:=fun bs n f h k=>ΔP_ends 0 ⟨⟨T,W,N,E⟩,cs,f⟩ bs n (by dsimp only;omega) h k
 refine NCall.walkW (rs:=[.tmp 10]) [0,1,2,3,4,10,11,13,14,15,16,17,18,19,20,21,22,23,32,33,34,35,44,45,46,51,52,53,61,103,104,105,113] [] 2 [0] mixed (zh) (zeO) call41 func41 rfl ntmps41 rfl (by kernel_rfl) (by simp) (by simp) (by simp) (by simp) ?_
 have q1:=qe [(2,.mp [] 0),(0,.cells [.fs (strs T) T.length,.fs (strs W) W.length,.fs (zu N) N.length,.fs (zu E) E.length,.fs (nats .i64 cs) cs.length,.int .i64 0]),(1,.cells [.ptr 0 0])] 3 0 rfl rfl
 simp (disch:=first|assumption|(push_cast<;>omega)|omega) only [go_sem,q1,zjj,List.nil_append]
 refine AXs.loop mixed (zh) (zeO) (fun t:Nat=>[(0,.ptr 0 0),(2,.str [48]),(3,.fn 42 [.ptr 1 0]),(4,.bnd 43 [.ptr 0 0]),(11,.map 2),(32,.fs (nats .i64 cs) cs.length),(33,.int .i64 cs.length),(34,.int .i64 t)])
  (fun t=>⟨[(2,.mp (befE T.length t (.str [49]) ((fwS M cs t).1.map V.str)) (befC t ((fwS M cs t).1.map V.str))),(0,.cells [.fs (strs T) T.length,.fs (strs W) W.length,.fs (zu N) N.length,.fs (zu E) E.length,.fs (nats .i64 cs) cs.length,.int .i64 (fwS M cs t).2]),(1,.cells [.ptr 0 0])],3⟩) (fun t=>t≤cs.length) (fun t=>cs.length - t) 0 (by kernel_rfl) (Nat.zero_le _) (Sub.oD [] rfl ?_ ?_) ?_
 ·simp only [go_sem]
 ·simp only [go_sem,zny,znB]
  exact⟨zbH 1 (zda (n:=T.length) (t:=0) (v:=.str [49]) (l:=[]) (.str _) (fun x h=>by cases h)),rfl⟩
 intro t h1
 simp (disch:=first|assumption|(push_cast<;>omega)|omega) only [go_sem]
 refine AXc.introP (fun h2=>?_) (fun h2=>?_)
 ·have ht:t<cs.length:=by omega
  have hct:=hc t ht
  have ef:fwS M cs (t+1)=rowK stS plS M [48] (befT M [49] t (fwS M cs t).1) (cs.getD t 0) (fwS M cs t).2 M.tags.length:=rfl
  have hbo:∀ i u,befT M [49] t (fwS M cs t).1 i=some u→u.length≤1000:=znw (m:=M) (t:=t) (zmP M cs t)
  have hfind:=fun i=>znx (m:=M) (t:=t) (l:=(fwS M cs t).1) (i:=i) [49] rfl
  rw [hMt]at ef hfind
  have hpe:zp1 (befE T.length t (.str [49]) ((fwS M cs t).1.map V.str)):=zda (.str _) (zcs _)
  generalize hes:befE T.length t (.str [49]) ((fwS M cs t).1.map V.str)=es at hfind hpe ⊢
  generalize hec:befC t ((fwS M cs t).1.map V.str)=ec
  generalize hbf:befT M [49] t (fwS M cs t).1=bf at ef hbo hfind
  generalize (fwS M cs t).2=f0 at ef ⊢
  generalize hcc:cs.getD t 0=c at hct ef ⊢
  simp (disch:=first|assumption|(push_cast<;>omega)|omega) only [go_sem,hcc]
  (repeat refine sdC ?_)
  refine AXs.loop mixed (zh) (zeO) (fun j:Nat=>[(0,.ptr 0 0),(2,.str [48]),(3,.fn 42 [.ptr 1 0]),(4,.bnd 43 [.ptr 0 0]),(11,.map 2),(32,.fs (nats .i64 cs) cs.length),(33,.int .i64 cs.length),(34,.int .i64 t),(13,.int .i64 c),(14,.map 3),(44,.int .i64 T.length),(45,.int .i64 j)])
   (fun j=>⟨[(3,.mp (mpI 0 ((rowK stS plS M [48] bf c f0 j).1.map V.str)) j),(2,.mp es ec),(0,.cells [.fs (strs T) T.length,.fs (strs W) W.length,.fs (zu N) N.length,.fs (zu E) E.length,.fs (nats .i64 cs) cs.length,.int .i64 (rowK stS plS M [48] bf c f0 j).2]),(1,.cells [.ptr 0 0])],4⟩) (fun j=>j≤T.length) (fun j=>T.length - j) 0 (by kernel_rfl) (Nat.zero_le _) (Sub.oD [] rfl ?_ ?_) ?_
  ·simp only [go_sem]
  ·simp only [go_sem]
   exact⟨zbH 0 (fun e h=>by cases h),zbH ec hpe,rfl⟩
  intro j h3
  simp (disch:=first|assumption|(push_cast<;>omega)|omega) only [go_sem]
  refine AXc.introP (fun h4=>?_) (fun h4=>?_)
  ·have hj:j<T.length:=by omega
   have er:rowK stS plS M [48] bf c f0 (j+1)=((rowK stS plS M [48] bf c f0 j).1++[(row1 stS plS M [48] bf j c (rowK stS plS M [48] bf c f0 j).2 (T.length+1)).1],(row1 stS plS M [48] bf j c (rowK stS plS M [48] bf c f0 j).2 (T.length+1)).2):=by rw [←hMt];rfl
   have erl:=zbQ stS plS M [48] bf c f0 j
   generalize rowK stS plS M [48] bf c f0 j=rk at er erl ⊢
   obtain⟨rl,f1⟩:=rk
   dsimp only at er erl ⊢
   have q2:=qe [(3,.mp (mpI 0 (rl.map V.str)) j),(2,.mp es ec),(0,.cells [.fs (strs T) T.length,.fs (strs W) W.length,.fs (zu N) N.length,.fs (zu E) E.length,.fs (nats .i64 cs) cs.length,.int .i64 f1]),(1,.cells [.ptr 0 0])] 4 f1 rfl rfl
   simp (disch:=first|assumption|(push_cast<;>omega)|omega) only [go_sem,q2]
   refine AXs.loop mixed (zh) (zeO) (fun i:Nat=>[(0,.ptr 0 0),(2,.str [48]),(3,.fn 42 [.ptr 1 0]),(4,.bnd 43 [.ptr 0 0]),(11,.map 2),(32,.fs (nats .i64 cs) cs.length),(33,.int .i64 cs.length),(34,.int .i64 t),(13,.int .i64 c),(14,.map 3),(44,.int .i64 T.length),(45,.int .i64 j),(15,.int .i64 j),(16,.str (row1 stS plS M [48] bf j c f1 i).1),(51,.int .i64 ((T.length:Int)+1)),(52,.int .i64 i)])
    (fun i=>⟨[(3,.mp (mpI 0 (rl.map V.str)) j),(2,.mp es ec),(0,.cells [.fs (strs T) T.length,.fs (strs W) W.length,.fs (zu N) N.length,.fs (zu E) E.length,.fs (nats .i64 cs) cs.length,.int .i64 (row1 stS plS M [48] bf j c f1 i).2]),(1,.cells [.ptr 0 0])],4⟩) (fun i=>i≤T.length+1) (fun i=>T.length+1 - i) 0 (by kernel_rfl) (Nat.zero_le _) (Sub.oD [] rfl ?_ ?_) ?_
   ·simp only [go_sem]
    rfl
   ·simp only [go_sem]
    exact⟨zbH j (zbw 0 _ (zcs _)),zbH ec hpe,rfl⟩
   intro i h5
   simp (disch:=first|assumption|(push_cast<;>omega)|omega) only [go_sem]
   refine AXc.introP (fun h6=>?_) (fun h6=>?_)
   ·have hi:i<T.length+1:=by omega
    have erN:bf i=none→row1 stS plS M [48] bf j c f1 (i+1)=row1 stS plS M [48] bf j c f1 i:=fun h=>by rw [row1,h]
    have erS:∀ u,bf i=some u→row1 stS plS M [48] bf j c f1 (i+1)=one stS plS (row1 stS plS M [48] bf j c f1 i).2 (row1 stS plS M [48] bf j c f1 i).1 u [j] (nx M i j) (em M j c):=fun u h=>by rw [row1,h]
    have okv:(row1 stS plS M [48] bf j c f1 i).1.length≤1000:=zhh (m:=M) (bef:=bf) j c f1 i
    obtain⟨kk,hk⟩:=hfind i
    generalize row1 stS plS M [48] bf j c f1 i=vf at erN erS okv ⊢
    obtain⟨w,f⟩:=vf
    dsimp only at erN erS okv ⊢
    cases hb:bf i with
    |none=>
     have er1:=erN hb
     rw [hb]at hk
     dsimp only at hk
     simp (disch:=first|assumption|(push_cast<;>omega)|omega) only [go_sem,hk]
     refine zk (i+1) (by omega) (by omega) ?_
     rw [er1]
     refine Sub.oD [] rfl ?_ ?_
     ·simp only [go_sem]
      simp
     ·simp only [go_sem]
      exact⟨zbH j (zbw 0 _ (zcs _)),zbH ec hpe⟩
    |some u=>
     have er1:=erS u hb
     rw [hb]at hk
     have oku:=hbo i u hb
     dsimp only at hk
     have n1:=zb3 N i (by omega)
     have n2:=v2 i (by omega)
     have n3:=zb3 E j (by omega)
     have n4:=v4 j hj
     have l1:=(hl i j).1
     have l2:=(hl j c).2
     rw [hn]at l1 er1
     rw [he]at l2 er1
     generalize hA:(nthR N i).getD j []=A at l1 er1
     generalize hB:(nthR E j).getD c []=B at l2 er1
     rw [zhw]at er1
     have t1:ΔP 36 [.ptr 0 0,.str A,.str B] ⟨[(3,.mp (mpI 0 (rl.map V.str)) j),(2,.mp es ec),(0,.cells [.fs (strs T) T.length,.fs (strs W) W.length,.fs (zu N) N.length,.fs (zu E) E.length,.fs (nats .i64 cs) cs.length,.int .i64 f]),(1,.cells [.ptr 0 0])],4⟩=some ⟨True,.str (tm f A B).1,⟨[(3,.mp (mpI 0 (rl.map V.str)) j),(2,.mp es ec),(0,.cells [.fs (strs T) T.length,.fs (strs W) W.length,.fs (zu N) N.length,.fs (zu E) E.length,.fs (nats .i64 cs) cs.length,.int .i64 (tm f A B).2]),(1,.cells [.ptr 0 0])],4⟩,[0],[0]⟩:=
      zu3 0 ⟨⟨T,W,N,E⟩,cs,f⟩ A B _ 4 l1 l2 rfl rfl
     have lx:=zf4 f A B
     generalize tm f A B=x at t1 lx er1
     obtain⟨x1,x2⟩:=x
     dsimp only at t1 lx er1
     have t2:ΔP 42 [.str u,.int .i64 (j:Nat),.str x1,.ptr 1 0] ⟨[(3,.mp (mpI 0 (rl.map V.str)) j),(2,.mp es ec),(0,.cells [.fs (strs T) T.length,.fs (strs W) W.length,.fs (zu N) N.length,.fs (zu E) E.length,.fs (nats .i64 cs) cs.length,.int .i64 x2]),(1,.cells [.ptr 0 0])],4⟩=some ⟨True,.str (tm x2 u x1).1,⟨[(3,.mp (mpI 0 (rl.map V.str)) j),(2,.mp es ec),(0,.cells [.fs (strs T) T.length,.fs (strs W) W.length,.fs (zu N) N.length,.fs (zu E) E.length,.fs (nats .i64 cs) cs.length,.int .i64 (tm x2 u x1).2]),(1,.cells [.ptr 0 0])],4⟩,[0,1],[0]⟩:=
      zp5 (b:=0) (c:=1) (s:=⟨⟨T,W,N,E⟩,cs,x2⟩) (u:=u) (q:=x1) (n:=4) (by decide) rfl rfl rfl (by omega) (by omega)
     have ly:=zf4 x2 u x1
     generalize tm x2 u x1=y at t2 ly er1
     obtain⟨y1,y2⟩:=y
     dsimp only at t2 ly er1
     have t3:ΔP 43 [.ptr 0 0,.str w,.str y1] ⟨[(3,.mp (mpI 0 (rl.map V.str)) j),(2,.mp es ec),(0,.cells [.fs (strs T) T.length,.fs (strs W) W.length,.fs (zu N) N.length,.fs (zu E) E.length,.fs (nats .i64 cs) cs.length,.int .i64 y2]),(1,.cells [.ptr 0 0])],4⟩=some ⟨True,.str (ps y2 w y1).1,⟨[(3,.mp (mpI 0 (rl.map V.str)) j),(2,.mp es ec),(0,.cells [.fs (strs T) T.length,.fs (strs W) W.length,.fs (zu N) N.length,.fs (zu E) E.length,.fs (nats .i64 cs) cs.length,.int .i64 (ps y2 w y1).2]),(1,.cells [.ptr 0 0])],4⟩,[0],[0]⟩:=
      zp6 0 ⟨⟨T,W,N,E⟩,cs,y2⟩ w y1 _ 4 (by omega) (by omega) rfl rfl
     generalize ps y2 w y1=g at t3 er1
     obtain⟨g1,g2⟩:=g
     dsimp only at t3 er1
     simp (disch:=first|assumption|(push_cast<;>omega)|omega) only [go_sem,hk,n1,n3,hA,hB,t1,t2,t3]
     refine⟨⟨by omega,by omega⟩,by omega,⟨by omega,by omega⟩,by omega,⟨by omega,by omega⟩,by omega,⟨by omega,by omega⟩,by omega,rfl,rfl,rfl,?_⟩
     refine AXk.intro (by kernel_rfl) ?_
     simp (disch:=first|assumption|(push_cast<;>omega)|omega) only [go_sem]
     refine zk (i+1) (by omega) (by omega) ?_
     rw [er1]
     refine Sub.oD [] rfl ?_ ?_
     ·simp only [go_sem]
      simp
     ·simp only [go_sem]
      exact⟨zbH j (zbw 0 _ (zcs _)),zbH ec hpe⟩
   ·obtain rfl:i=T.length+1:=by omega
    have hnew:zcl (.int .i64 j) (mpI 0 (rl.map V.str)) 0=some none:=by rw [zd0 j 0 _ 0 (Nat.zero_le _),Nat.sub_zero,List.getElem?_eq_none (by rw [List.length_map];omega)]
    have happ:=zfS 0 (rl.map V.str) (.str (row1 stS plS M [48] bf j c f1 (T.length+1)).1)
    rw [Nat.zero_add,List.length_map,erl]at happ
    generalize row1 stS plS M [48] bf j c f1 (T.length+1)=vf at happ er ⊢
    obtain⟨w,f⟩:=vf
    dsimp only at happ er ⊢
    have happ':mpI 0 (rl.map V.str)++[(j,.int .i64 (j:Nat),.str w)]=mpI 0 ((rl++[w]).map V.str):=by rw [List.map_append];exact happ
    simp only [go_sem]
    refine AXa.go mixed (zh) (zeO) (by kernel_rfl) ?_
    simp (disch:=first|assumption|(push_cast<;>omega)|omega) only [go_sem,hnew,happ']
    refine zk (j+1) (by omega) (by omega) ?_
    rw [er]
    refine Sub.oD [] rfl ?_ ?_
    ·simp only [go_sem]
     simp
    ·simp only [go_sem]
     exact⟨zbH (j+1) (zbw 0 _ (zcs _)),zbH ec hpe⟩
  ·obtain rfl:j=T.length:=by omega
   have erl:=zbQ stS plS M [48] bf c f0 T.length
   simp only [go_sem]
   refine AXa.go mixed (zh) (zeO) (by kernel_rfl) ?_
   simp (disch:=first|assumption|(push_cast<;>omega)|omega) only [go_sem]
   refine zk (t+1) (by omega) (by omega) ?_
   rw [ef]
   generalize rowK stS plS M [48] bf c f0 T.length=rk at erl ⊢
   obtain⟨rl,f1⟩:=rk
   dsimp only at erl ⊢
   rw [znz,znC,List.length_map,erl]
   refine Sub.oD [(2,3)] rfl ?_ ?_
   ·simp only [go_sem]
    simp
   ·simp only [go_sem]
    exact zbH T.length (zbw 0 _ (zcs _))
 ·obtain rfl:t=cs.length:=by omega
  have ef:finT stS plS M [48] [49] cs=fin1 stS plS M [48] (befT M [49] cs.length (fwS M cs cs.length).1) (fwS M cs cs.length).2 (M.tags.length+1):=rfl
  have hbo:∀ i u,befT M [49] cs.length (fwS M cs cs.length).1 i=some u→u.length≤1000:=znw (m:=M) (t:=cs.length) (zmP M cs cs.length)
  have hfind:=fun i=>znx (m:=M) (t:=cs.length) (l:=(fwS M cs cs.length).1) (i:=i) [49] rfl
  have hpe:zp1 (befE T.length cs.length (.str [49]) ((fwS M cs cs.length).1.map V.str)):=zda (.str _) (zcs _)
  rw [hMt]at ef hfind
  rw [ef]at hR
  clear ef
  generalize hes:befE T.length cs.length (.str [49]) ((fwS M cs cs.length).1.map V.str)=es at hfind hpe ⊢
  generalize hec:befC cs.length ((fwS M cs cs.length).1.map V.str)=ec
  generalize hbf:befT M [49] cs.length (fwS M cs cs.length).1=bf at hR hbo hfind
  generalize (fwS M cs cs.length).2=f0 at hR ⊢
  have q2:=qe [(2,.mp es ec),(0,.cells [.fs (strs T) T.length,.fs (strs W) W.length,.fs (zu N) N.length,.fs (zu E) E.length,.fs (nats .i64 cs) cs.length,.int .i64 f0]),(1,.cells [.ptr 0 0])] 3 f0 rfl rfl
  simp only [go_sem]
  refine AXa.go mixed (zh) (zeO) (by kernel_rfl) ?_
  simp (disch:=first|assumption|(push_cast<;>omega)|omega) only [go_sem,q2]
  refine AXs.loop mixed (zh) (zeO) (fun i:Nat=>[(0,.ptr 0 0),(3,.fn 42 [.ptr 1 0]),(4,.bnd 43 [.ptr 0 0]),(11,.map 2),(20,.str (fin1 stS plS M [48] bf f0 i).1),(103,.int .i64 ((T.length:Int)+1)),(104,.int .i64 i)])
   (fun i=>⟨[(2,.mp es ec),(0,.cells [.fs (strs T) T.length,.fs (strs W) W.length,.fs (zu N) N.length,.fs (zu E) E.length,.fs (nats .i64 cs) cs.length,.int .i64 (fin1 stS plS M [48] bf f0 i).2]),(1,.cells [.ptr 0 0])],3⟩) (fun i=>i≤T.length+1) (fun i=>T.length+1 - i) 0 (by kernel_rfl) (Nat.zero_le _) (Sub.oD [] rfl ?_ ?_) ?_
  ·simp only [go_sem]
   rfl
  ·simp only [go_sem]
   exact⟨zbH ec hpe,rfl⟩
  intro i h5
  simp (disch:=first|assumption|(push_cast<;>omega)|omega) only [go_sem]
  refine AXc.introP (fun h6=>?_) (fun h6=>?_)
  ·have hi:i<T.length+1:=by omega
   have erN:bf i=none→fin1 stS plS M [48] bf f0 (i+1)=fin1 stS plS M [48] bf f0 i:=fun h=>by rw [fin1,h]
   have erS:∀ u,bf i=some u→fin1 stS plS M [48] bf f0 (i+1)=one' stS plS (fin1 stS plS M [48] bf f0 i).2 (fin1 stS plS M [48] bf f0 i).1 u (nx M i T.length):=fun u h=>by rw [fin1,h,hMt]
   have okv:(fin1 stS plS M [48] bf f0 i).1.length≤1000:=zhS (m:=M) (bef:=bf) f0 i
   obtain⟨kk,hk⟩:=hfind i
   generalize fin1 stS plS M [48] bf f0 i=vf at erN erS okv ⊢
   obtain⟨w,f⟩:=vf
   dsimp only at erN erS okv ⊢
   cases hb:bf i with
   |none=>
    have er1:=erN hb
    rw [hb]at hk
    dsimp only at hk
    simp (disch:=first|assumption|(push_cast<;>omega)|omega) only [go_sem,hk]
    refine zk (i+1) (by omega) (by omega) ?_
    rw [er1]
    refine Sub.oD [] rfl ?_ ?_
    ·simp only [go_sem]
     simp
    ·simp only [go_sem]
     exact zbH ec hpe
   |some u=>
    have er1:=erS u hb
    rw [hb]at hk
    have oku:=hbo i u hb
    dsimp only at hk
    have n1:=zb3 N i (by omega)
    have n2:=v2 i (by omega)
    have l1:=(hl i T.length).1
    rw [hn]at l1 er1
    generalize hA:(nthR N i).getD T.length []=A at l1 er1
    rw [zej]at er1
    have q3:=qe [(2,.mp es ec),(0,.cells [.fs (strs T) T.length,.fs (strs W) W.length,.fs (zu N) N.length,.fs (zu E) E.length,.fs (nats .i64 cs) cs.length,.int .i64 f]),(1,.cells [.ptr 0 0])] 3 f rfl rfl
    have t2:ΔP 42 [.str u,.int .i64 (-1),.str A,.ptr 1 0] ⟨[(2,.mp es ec),(0,.cells [.fs (strs T) T.length,.fs (strs W) W.length,.fs (zu N) N.length,.fs (zu E) E.length,.fs (nats .i64 cs) cs.length,.int .i64 f]),(1,.cells [.ptr 0 0])],3⟩=some ⟨True,.str (tm f u A).1,⟨[(2,.mp es ec),(0,.cells [.fs (strs T) T.length,.fs (strs W) W.length,.fs (zu N) N.length,.fs (zu E) E.length,.fs (nats .i64 cs) cs.length,.int .i64 (tm f u A).2]),(1,.cells [.ptr 0 0])],3⟩,[0,1],[0]⟩:=
     zp5 (b:=0) (c:=1) (s:=⟨⟨T,W,N,E⟩,cs,f⟩) (u:=u) (q:=A) (n:=3) (by decide) rfl rfl rfl (by omega) (by omega)
    have ly:=zf4 f u A
    generalize tm f u A=y at t2 ly er1
    obtain⟨y1,y2⟩:=y
    dsimp only at t2 ly er1
    have t3:ΔP 43 [.ptr 0 0,.str w,.str y1] ⟨[(2,.mp es ec),(0,.cells [.fs (strs T) T.length,.fs (strs W) W.length,.fs (zu N) N.length,.fs (zu E) E.length,.fs (nats .i64 cs) cs.length,.int .i64 y2]),(1,.cells [.ptr 0 0])],3⟩=some ⟨True,.str (ps y2 w y1).1,⟨[(2,.mp es ec),(0,.cells [.fs (strs T) T.length,.fs (strs W) W.length,.fs (zu N) N.length,.fs (zu E) E.length,.fs (nats .i64 cs) cs.length,.int .i64 (ps y2 w y1).2]),(1,.cells [.ptr 0 0])],3⟩,[0],[0]⟩:=
     zp6 0 ⟨⟨T,W,N,E⟩,cs,y2⟩ w y1 _ 3 (by omega) (by omega) rfl rfl
    generalize ps y2 w y1=g at t3 er1
    obtain⟨g1,g2⟩:=g
    dsimp only at t3 er1
    simp (disch:=first|assumption|(push_cast<;>omega)|omega) only [go_sem,hk,n1,hA,q3,t2,t3]
    (repeat refine sdC ?_)
    simp (disch:=first|assumption|(push_cast<;>omega)|omega) only [go_sem]
    refine zk (i+1) (by omega) (by omega) ?_
    rw [er1]
    refine Sub.oD [] rfl ?_ ?_
    ·simp only [go_sem]
     simp
    ·simp only [go_sem]
     exact zbH ec hpe
  ·obtain rfl:i=T.length+1:=by omega
   rw [←hR]
   obtain⟨r1,r3⟩:=R
   dsimp only
   simp only [go_sem]
   refine AXa.go mixed (zh) (zeO) (by kernel_rfl) ?_
   simp (disch:=first|assumption|(push_cast<;>omega)|omega) only [go_sem]
   refine⟨[(10,.str r1)],Sub.oD [] rfl ?_ ?_,?_⟩
   ·simp only [go_sem]
   ·simp only [go_sem]
   ·rfl
end Go.Proofs

namespace Go.Ab
def TellF(C:Cfg)(s s':St):Prop:=Sub C s s'∨∃ s1,(C.Wm=[]∧∃ F,Fz2 C.nx F s s1)∧Sub C s1 s'
def LoopF(C:Cfg)(ι:Type)(inv:ι→St)(p:ι→Prop)(m:ι→Nat)(i:ι)(K:Out→St→Prop):Out→St→Prop:=zf3 (fun s'=>∃ j,p j∧m j<m i∧TellF C s' (inv j)) K
theorem zxj {C:Cfg}{P:Program}{ι:Type}{inv:ι→St}{p:ι→Prop}{m:ι→Nat}{i:ι}{K:Out→St→Prop}{st:List Fr}(env:Env)(h:Hp):LoopF C ι inv p m i (unst C P K st) .ret ⟨env,h⟩=AXs C P K st .ret env h:=rfl
theorem zs3 {C:Cfg}{P:Program}{ι:Type}{inv:ι→St}{p:ι→Prop}{m:ι→Nat}{i:ι}{K:Out→St→Prop}{st:List Fr}(k:Nat)(env:Env)(h:Hp):LoopF C ι inv p m i (unst C P K st) (.exit k) ⟨env,h⟩=AXs C P K st (.exit k) env h:=rfl
attribute [go_sem] zxj zs3
end Go.Ab

namespace Go.Proofs
open Go.Ab Go.Cnt Go.Pl Go.Tg
def ext(n:Nat)(l:List Nat):List (List Nat):=(List.range n).map fun j=>l++[j]
def okN(n:Nat)(x:TL):Prop:=∀ t∈x.2,t<n
theorem zrA {n:Nat}{x y:TL}(hx:okN n x)(hy:okN n y):okN n (betT x y):=by unfold betT;split<;>assumption
theorem zvK {n:Nat}{f:Int}{u:TL}{j:List Nat}{q:Str}(hu:okN n u)(hj:∀ t∈j,t<n):okN n (stL f u j q).1:=by
 unfold stL;split
 ·intro t h;cases h
 ·intro t h;rcases List.mem_append.1 h with h|h
  ·exact hu t h
  ·exact hj t h
theorem zqw {m:Mdl}{bef:Nat→Option TL}(hb:∀ i u,bef i=some u→okN m.tags.length u){j:Nat}(hj:j<m.tags.length)(c:Nat)(f:Int):∀ k,okN m.tags.length (row1 stL plL m z48 bef j c f k).1
 |0=>fun t h=>by cases h
 |k+1=>by
  have ih:=zqw (m:=m) hb hj c f k;rw [row1];cases h:bef k with
  |none=>exact ih
  |some u=>exact zrA ih (zvK (hb k u h) (fun t ht=>by rw [List.mem_singleton.1 ht];exact hj))
theorem zqu {m:Mdl}{bef:Nat→Option TL}(hb:∀ i u,bef i=some u→okN m.tags.length u)(c:Nat)(f:Int):∀ k,k≤m.tags.length→∀ x∈(rowK stL plL m z48 bef c f k).1,okN m.tags.length x
 |0,_,x,h=>by cases h
 |k+1,hk,x,h=>by
  rw [rowK]at h;rcases List.mem_append.1 h with h|h
  ·exact zqu hb c f k (by omega) x h
  ·rw [List.mem_singleton.1 h];exact zqw hb (by omega) _ _ _
theorem zrF {m:Mdl}{t:Nat}{l:List TL}(h:∀ x∈l,okN m.tags.length x):∀ i u,befT m o49 t l i=some u→okN m.tags.length u:=by
 intro i u e;unfold befT at e;split at e
 ·split at e
  ·cases e;intro t h;cases h
  ·cases e
 ·exact h u (List.mem_of_getElem? e)
theorem zqY(m:Mdl)(cs:List Nat):∀ t,∀ x∈(fwdT stL plL m z48 o49 cs t).1,okN m.tags.length x
 |0,x,h=>by cases h
 |t+1,x,h=>zqu (zrF (zqY m cs t)) _ _ _ (Nat.le_refl _) x h
theorem zq0 {m:Mdl}{bef:Nat→Option TL}(hb:∀ i u,bef i=some u→okN m.tags.length u)(f:Int):∀ k,okN m.tags.length (fin1 stL plL m z48 bef f k).1
 |0=>fun t h=>by cases h
 |k+1=>by
  have ih:=zq0 (m:=m) hb f k;rw [fin1];cases h:bef k with
  |none=>exact ih
  |some u=>exact zrA ih (zvK (hb k u h) (fun t ht=>by cases ht))
theorem finT_okN(m:Mdl)(cs:List Nat):okN m.tags.length (finT stL plL m z48 o49 cs).1:=zq0 (zrF (zqY m cs cs.length)) _ _
theorem finT_len(m:Mdl)(cs:List Nat):(finT stL plL m z48 o49 cs).1.2.length≤cs.length+1:=(zfk (m:=m) (zer (m:=m) (t:=cs.length) (zeo m cs cs.length)) _ _).2
def TagOK(p:Mdl×List Str):Prop:=Fit p.1∧p.2.length≤1000∧∀ i j,(nx p.1 i j).length≤1000000000∧(em p.1 i j).length≤1000000000
noncomputable def tagV(r:(List Str×Str)×Int):V:=.tup [.fs (strs r.1.1) r.1.1.length,.str r.1.2,.int .i64 r.2]
noncomputable def cTag36:List V→Option PR:=zF (fun p:Mdl×List Str=>[mdlV p.1,.fs (strs p.2) p.2.length]) TagOK fun p=>.ret (tagV (tagR p.1 p.2))
theorem zzl(m:Mdl)(ws:List Str)(h:TagOK (m,ws)):cTag36 [mdlV m,.fs (strs ws) ws.length]=some (.ret (tagV (tagR m ws))):=
 zo (pat:=fun p:Mdl×List Str=>[mdlV p.1,.fs (strs p.2) p.2.length]) zw5 (m,ws) h
theorem zzk:∀ args r,cTag36 args=some r→PCall Tryz.prog 13 args r:=zn fun p h=>tag_ok p.1 p.2 h.1 h.2.1 h.2.2 fun _=>finT_okN p.1 _
theorem tagR_len(m:Mdl)(ws:List Str)(hw:ws.length≤1000):(tagR m ws).1.1.length≤1001:=by
 unfold tagR;split
 ·simp
 ·split
  ·simp
  ·split
   ·simp
   ·have:=finT_len m (zq m ws);have e:(zq m ws).length=ws.length:=by simp [zq]
    rw [List.length_map];omega
theorem prob_len(m:Mdl)(cs js:List Nat):(prob m cs js).1.length≤1000:=by
 unfold prob;split
 ·simp
 ·exact zqy _ _
end Go.Proofs

namespace Go.Proofs
open Tryz Go.Ab Go.Cnt Go.Pl Go.Tg
def FwdSR(args:List V)(H:Hp)(r:AR):Prop:=∃(c b:Nat) (m:Mdl) (cs:List Nat),args=[.ptr b 0,.str [49],.str [48],.fn 42 [.ptr c 0],.bnd 43 [.ptr b 0]]∧b≠c∧H.get b=some (.cells (runC ⟨m,cs,0⟩))∧H.get c=some (.cells [.ptr b 0])∧
 (∀ b x,H.get b=some x→b<H.next)∧RunOK m cs∧r=⟨True,.str (finT stS plS m [48] [49] cs).1,H.put b (.cells (runC ⟨m,cs,(finT stS plS m [48] [49] cs).2⟩)),[b,c],[b]⟩
theorem fwdSR_ok:∀ args H r,FwdSR args H r→HCall prog 41 args H r:=by
 rintro args H r ⟨c,b,m,cs,rfl,hne,hb,hc,hk,⟨h1,h2,h3,h4,h5⟩,rfl⟩;refine HCall.two (s:=⟨m,cs,0⟩) (s':=⟨m,cs,(finT stS plS m [48] [49] cs).2⟩) (fwdS_N m cs h1 h2 h3 h4 h5) (.str _) b c H ?_ hne hb hc hk;refine⟨rfl,fun i x y hx hy=>?_⟩;match i with
 |0=>cases hx;cases hy;exact .ptr (π:=fun i=>[b,c].getD i 0) (b:=0) (Nat.zero_lt_succ _)
 |1=>cases hx;cases hy;exact .same (.str _)
 |2=>cases hx;cases hy;exact .same (.str _)
 |3=>
  cases hx;cases hy;refine .fn rfl fun i x y hx hy=>?_;match i with
  |0=>cases hx;cases hy;exact .ptr (π:=fun i=>[b,c].getD i 0) (b:=1) (Nat.lt_succ_self _)
  |i+1=>simp at hx
 |4=>
  cases hx;cases hy;refine .bnd rfl fun i x y hx hy=>?_;match i with
  |0=>cases hx;cases hy;exact .ptr (π:=fun i=>[b,c].getD i 0) (b:=0) (Nat.zero_lt_succ _)
  |i+1=>simp at hx
 |i+5=>simp at hx
noncomputable def ΔTot:FuncId→List V→Hp→Option AR:=zbJ 33 (conD znL) (zbJ 41 (conD FwdSR) noΔ)
theorem ΔTot_ok:zaT prog ΔTot:=zV (zaq zg7) (zV (zaq fwdSR_ok) zg)
theorem zuZ {m:Mdl}{cs:List Nat}{bs:List (Nat×Blk)}{n b c:Nat}(hne:b≠c)(hb:zar bs b=some (.cells (runC ⟨m,cs,0⟩)))(hc:zar bs c=some (.cells [.ptr b 0]))(hk:((keysB bs).all fun b=>decide (b<n))=true)(ho:RunOK m cs):
 ΔTot 41 [.ptr b 0,.str [49],.str [48],.fn 42 [.ptr c 0],.bnd 43 [.ptr b 0]] ⟨bs,n⟩=
  some ⟨True,.str (finT stS plS m [48] [49] cs).1,(⟨bs,n⟩:Hp).put b (.cells (runC ⟨m,cs,(finT stS plS m [48] [49] cs).2⟩)),[b,c],[b]⟩:=by
 refine zaD (R:=FwdSR) ⟨c,b,m,cs,rfl,hne,by rw [zaL];exact hb,by rw [zaL];exact hc,zbp hk,ho,rfl⟩ fun r' ⟨c',b',m',cs',e1,_,e2,e3,_,_,e4⟩=>?_
 simp only [List.cons.injEq,V.ptr.injEq,V.fn.injEq,V.bnd.injEq,and_true,true_and]at e1
 obtain⟨rfl,rfl,_⟩:=e1
 rw [zaL,hb]at e2
 simp only [Option.some.injEq,Blk.cells.injEq]at e2
 have:=zcI e2
 simp only [Run.mk.injEq,and_true]at this
 obtain⟨rfl,rfl⟩:=this
 exact e4
noncomputable def totR(m:Mdl)(ws:List Str):Str×Int:=
 if (vmB m&&zci ws)=false then([],1)else
 if (finT stS plS m [48] [49] (zq m ws)).2≠0 then([],(finT stS plS m [48] [49] (zq m ws)).2)else
 ((finT stS plS m [48] [49] (zq m ws)).1,0)
theorem total_ok(m:Mdl)(ws:List Str)(hf:Fit m)(hw:ws.length≤1000)(hl:∀ i j,(nx m i j).length≤1000000000∧(em m i j).length≤1000000000):
 PCall prog 14 [mdlV m,.fs (strs ws) ws.length] (.ret (.tup [.str (totR m ws).1,.int .i64 (totR m ws).2])):=by
 have p1:ΔTot 33 [mdlV m,.fs (strs ws) ws.length] ⟨[],0⟩=_:=zg8 m ws hf (by omega)
 obtain⟨R,hR⟩:∃ R,R=totR m ws:=⟨_,rfl⟩
 rw [←hR]
 unfold totR at hR
 have hlen:(zq m ws).length=ws.length:=by simp [zq]
 have hcc:∀ i,i<(zq m ws).length→(zq m ws).getD i 0≤m.words.length:=fun i hi=>by rw [zfo m ws i (by omega)];exact zdY _ _
 have hok:vmB m=true→RunOK m (zq m ws):=fun h=>⟨h,hf,by omega,hcc,hl⟩
 refine PCall.walk (rs:=[.tmp 4,.tmp 5]) [0,1,2,4,5,6,14,25] [25] mixed (zh) (ΔTot_ok) call14 func14 rfl ntmps14 rfl (by kernel_rfl) (by simp) (by simp [push_cast,zdp]) ?_
 have t1:=fun h=>zuZ (m:=m) (cs:=zq m ws) (bs:=[(1,.cells [.ptr 0 0]),(0,.cells (runC ⟨m,zq m ws,0⟩))]) (n:=2) (b:=0) (c:=1) (by decide) rfl rfl rfl (hok h)
 cases hb:(vmB m&&zci ws)with
 |false=>
  rw [hb,if_neg (by simp)]at p1
  rw [if_pos hb]at hR
  rw [hR]
  clear t1 hok hcc hlen hR
  obtain⟨T,W,N,E⟩:=m
  unfold mdlV at p1 ⊢
  dsimp only at p1 ⊢
  simp (disch:=first|assumption|(push_cast<;>omega)|omega) only [go_sem,p1]
 |true=>
  have hvm:vmB m=true:=by simp only [Bool.and_eq_true]at hb;exact hb.1
  rw [hb,if_pos rfl]at p1
  rw [if_neg (by rw [hb];simp)]at hR
  replace t1:=t1 hvm
  generalize zq m ws=cs at*
  generalize finT stS plS m [48] [49] cs=z at t1 hR
  obtain⟨z1,z3⟩:=z
  dsimp only at t1 hR
  have t2:ΔTot 41 [.ptr 0 0,.str [49],.str [48],.fn 42 [.ptr 1 0],.bnd 43 [.ptr 0 0]] ⟨[(1,.cells [.ptr 0 0]),(0,.cells (runC ⟨m,cs,0⟩))],2⟩=some ⟨True,.str z1,⟨[(1,.cells [.ptr 0 0]),(0,.cells (runC ⟨m,cs,z3⟩))],2⟩,[0,1],[0]⟩:=t1
  clear t1
  obtain⟨T,W,N,E⟩:=m
  unfold mdlV at p1 ⊢
  unfold runC at p1 t2
  dsimp only at p1 t2 hR ⊢
  simp (disch:=first|assumption|(push_cast<;>omega)|omega) only [go_sem,p1,t2]
  refine AXc.introN (fun h1=>?_) (fun h1=>?_)
  ·rw [if_pos h1]at hR
   rw [hR]
   simp (disch:=first|assumption|(push_cast<;>omega)|omega) only [go_sem]
   refine AXk.intro (by kernel_rfl) ?_
   simp (disch:=first|assumption|(push_cast<;>omega)|omega) only [go_sem]
  rw [if_neg (fun k=>k h1)]at hR
  rw [hR]
  simp (disch:=first|assumption|(push_cast<;>omega)|omega) only [go_sem]
end Go.Proofs

namespace Go.Proofs
open Go.Ab Go.Cnt Go.Pl Go.Tg
noncomputable def cTotal:List V→Option PR:=zF (fun p:Mdl×List Str=>[mdlV p.1,.fs (strs p.2) p.2.length]) TagOK fun p=>.ret (.tup [.str (totR p.1 p.2).1,.int .i64 (totR p.1 p.2).2])
theorem zzj(m:Mdl)(ws:List Str)(h:TagOK (m,ws)):cTotal [mdlV m,.fs (strs ws) ws.length]=some (.ret (.tup [.str (totR m ws).1,.int .i64 (totR m ws).2])):=
 zo (pat:=fun p:Mdl×List Str=>[mdlV p.1,.fs (strs p.2) p.2.length]) zw5 (m,ws) h
theorem zzi:∀ args r,cTotal args=some r→PCall Tryz.prog 14 args r:=zn fun p h=>total_ok p.1 p.2 h.1 h.2.1 h.2.2
end Go.Proofs
