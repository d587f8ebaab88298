/- Unknown words: the statement's own function. -/
import Derived.Test.YthbimeikbkjnkaaGreatDoorAbMapI
import Derived.Test.YthbimeikbkjnkaaGreatDoorT6
import Derived.Test.YthbimeikbkjnkaaGreatDoorAbLoopZ
import Derived.Test.YthbimeikbkjnkaaGreatDoorAbBnd
import Derived.Test.YthbimeikbkjnkaaGreatDoorCards
import Derived.Test.YthbimeikbkjnkaaGreatDoorTie
import Derived.Test.YthbimeikbkjnkaaGreatDoorS0Types
import Derived.ProofKit
import Derived.LaidMore
import Derived.OpenShut
import Derived.Stop.Joined
import Derived.Stop.LaidErr
import Derived.SevenTiedAt
import Derived.Lib.LaidTab
import Derived.Carry
set_option linter.all false
namespace Go.Proofs
open Go.Ab Go.Cnt Go.Pl Go.Tg
def TagOK(p:Mdl×List Str):Prop:=Fit p.1∧p.2.length≤1000∧∀ i j,(nx p.1 i j).length≤1000000000∧(em p.1 i j).length≤1000000000
end Go.Proofs

namespace Go.Proofs
open Go.Ab Go.Cnt Go.Pl Go.Tg
noncomputable def cLists:List V→Option PR:=zB (fun p:Nat×Nat=>[.int .i64 p.1,.int .i64 p.2]) (fun p=>p.1≤3∧p.2≤4) fun p=>.ret (.fs (zbe (LL p.1 p.2)) (LL p.1 p.2).length)
theorem zzn(n T:Nat)(hn:n≤3)(hT:T≤4):cLists [.int .i64 n,.int .i64 T]=some (.ret (.fs (zbe (LL n T)) (LL n T).length)):=
 zo (pat:=fun p:Nat×Nat=>[V.int .i64 p.1,.int .i64 p.2]) (fun x y h=>by simp only [List.cons.injEq,V.int.injEq,and_true,true_and]at h;exact Prod.ext (by omega) (by omega)) (n,T) ⟨hn,hT⟩
theorem zzm:∀ args r,cLists args=some r→PCall Tryz.prog 45 args r:=zn fun p h=>lists_ok p.1 p.2 h.1 h.2
theorem prob_len(m:Mdl)(cs js:List Nat):(prob m cs js).1.length≤1000:=by
 unfold prob;split
 ·simp
 ·exact zgu _ _
end Go.Proofs

namespace Go.Proofs
open Go.Ab Go.Cnt Go.Pl Go.Tg
end Go.Proofs

namespace Go.Proofs
open Go.Ab Go.Cnt Go.Pl Go.Tg
def FwdSR(args:List V)(H:Hp)(r:AR):Prop:=∃(c b:Nat) (m:Mdl) (cs:List Nat),args=[.ptr b 0,.str [49],.str [48],.fn 42 [.ptr c 0],.bnd 43 [.ptr b 0]]∧b≠c∧H.get b=some (.cells (runC ⟨m,cs,0⟩))∧H.get c=some (.cells [.ptr b 0])∧
 (∀ b x,H.get b=some x→b<H.next)∧RunOK m cs∧r=⟨True,.str (finT stS plS m [48] [49] cs).1,H.put b (.cells (runC ⟨m,cs,(finT stS plS m [48] [49] cs).2⟩)),[b,c],[b]⟩
theorem fwdSR_ok:∀ args H r,FwdSR args H r→HCall Tryz.prog 41 args H r:=by
 rintro args H r ⟨c,b,m,cs,rfl,hne,hb,hc,hk,⟨h1,h2,h3,h4,h5⟩,rfl⟩;refine HCall.two (s:=⟨m,cs,0⟩) (s':=⟨m,cs,(finT stS plS m [48] [49] cs).2⟩) (fwdS_N m cs h1 h2 h3 h4 h5) (.str _) b c H ?_ hne hb hc hk;refine⟨rfl,fun i x y hx hy=>?_⟩;match i with
 |0=>cases hx;cases hy;exact .ptr (π:=fun i=>[b,c].getD i 0) (b:=0) (Nat.zero_lt_succ _)
 |1=>cases hx;cases hy;exact .same (.str _)
 |2=>cases hx;cases hy;exact .same (.str _)
 |3=>
  cases hx;cases hy;refine .fn rfl fun i x y hx hy=>?_;match i with
  |0=>cases hx;cases hy;exact .ptr (π:=fun i=>[b,c].getD i 0) (b:=1) (Nat.lt_succ_self _)
  |i+1=>simp at hx
 |4=>
  cases hx;cases hy;refine .bnd rfl fun i x y hx hy=>?_;match i with
  |0=>cases hx;cases hy;exact .ptr (π:=fun i=>[b,c].getD i 0) (b:=0) (Nat.zero_lt_succ _)
  |i+1=>simp at hx
 |i+5=>simp at hx
noncomputable def ΔTot:FuncId→List V→Hp→Option AR:=zcD 33 (conD zAv) (zcD 41 (conD FwdSR) noΔ)
theorem ΔTot_ok:za4 Tryz.prog ΔTot:=zau (zaS zu4) (zau (zaS fwdSR_ok) zg)
theorem zuk {m:Mdl}{cs:List Nat}{bs:List (Nat×Blk)}{n b c:Nat}(hne:b≠c)(hb:zaF bs b=some (.cells (runC ⟨m,cs,0⟩)))(hc:zaF bs c=some (.cells [.ptr b 0]))(hk:((keysB bs).all fun b=>decide (b<n))=true)(ho:RunOK m cs):
 ΔTot 41 [.ptr b 0,.str [49],.str [48],.fn 42 [.ptr c 0],.bnd 43 [.ptr b 0]] ⟨bs,n⟩=
  some ⟨True,.str (finT stS plS m [48] [49] cs).1,(⟨bs,n⟩:Hp).put b (.cells (runC ⟨m,cs,(finT stS plS m [48] [49] cs).2⟩)),[b,c],[b]⟩:=by
 refine zaT (R:=FwdSR) ⟨c,b,m,cs,rfl,hne,by rw [zbh];exact hb,by rw [zbh];exact hc,zbN hk,ho,rfl⟩ fun r' ⟨c',b',m',cs',e1,_,e2,e3,_,_,e4⟩=>?_
 simp only [List.cons.injEq,V.ptr.injEq,V.fn.injEq,V.bnd.injEq,and_true,true_and]at e1
 obtain⟨rfl,rfl,_⟩:=e1
 rw [zbh,hb]at e2
 simp only [Option.some.injEq,Blk.cells.injEq]at e2
 have:=zec e2
 simp only [Run.mk.injEq,and_true]at this
 obtain⟨rfl,rfl⟩:=this
 exact e4
noncomputable def totR(m:Mdl)(ws:List Str):Str×Int:=
 if (vmB m&&zbn ws)=false then([],1)else
 if (finT stS plS m [48] [49] (zu m ws)).2≠0 then([],(finT stS plS m [48] [49] (zu m ws)).2)else
 ((finT stS plS m [48] [49] (zu m ws)).1,0)
set_option maxHeartbeats 8000000 in
set_option maxRecDepth 100000 in
theorem total_ok(m:Mdl)(ws:List Str)(hf:Fit m)(hw:ws.length≤1000)(hl:∀ i j,(nx m i j).length≤1000000000∧(em m i j).length≤1000000000):
 PCall Tryz.prog 14 [mdlV m,.fs (strs ws) ws.length] (.ret (.tup [.str (totR m ws).1,.int .i64 (totR m ws).2])):=by
 have p1:ΔTot 33 [mdlV m,.fs (strs ws) ws.length] ⟨[],0⟩=_:=zu5 m ws hf (by omega)
 obtain⟨R,hR⟩:∃ R,R=totR m ws:=⟨_,rfl⟩
 rw [←hR]
 unfold totR at hR
 have hlen:(zu m ws).length=ws.length:=by simp [zu]
 have hcc:∀ i,i<(zu m ws).length→(zu m ws).getD i 0≤m.words.length:=fun i hi=>by rw [zmM m ws i (by omega)];exact zhy _ _
 have hok:vmB m=true→RunOK m (zu m ws):=fun h=>⟨h,hf,by omega,hcc,hl⟩
 refine PCall.walk (rs:=[.tmp 4,.tmp 5]) [0,1,2,4,5,6,14,25] [25] mixed (zh) (ΔTot_ok) call14 Tryz.func14 rfl Tryz.ntmps14 rfl (by kernel_rfl) (by simp) (by simp [push_cast,zbZ]) ?_
 have t1:=fun h=>zuk (m:=m) (cs:=zu m ws) (bs:=[(1,.cells [.ptr 0 0]),(0,.cells (runC ⟨m,zu m ws,0⟩))]) (n:=2) (b:=0) (c:=1) (by decide) rfl rfl rfl (hok h)
 cases hb:(vmB m&&zbn ws)with
 |false=>
  rw [hb,if_neg (by simp)]at p1
  rw [if_pos hb]at hR
  rw [hR]
  clear t1 hok hcc hlen hR
  obtain⟨T,W,N,E⟩:=m
  unfold mdlV at p1 ⊢
  dsimp only at p1 ⊢
  simp (disch:=first|assumption|(push_cast<;>omega)|omega) only [go_sem,p1]
 |true=>
  have hvm:vmB m=true:=by simp only [Bool.and_eq_true]at hb;exact hb.1
  rw [hb,if_pos rfl]at p1
  rw [if_neg (by rw [hb];simp)]at hR
  replace t1:=t1 hvm
  generalize zu m ws=cs at*
  generalize finT stS plS m [48] [49] cs=z at t1 hR
  obtain⟨z1,z3⟩:=z
  dsimp only at t1 hR
  have t2:ΔTot 41 [.ptr 0 0,.str [49],.str [48],.fn 42 [.ptr 1 0],.bnd 43 [.ptr 0 0]] ⟨[(1,.cells [.ptr 0 0]),(0,.cells (runC ⟨m,cs,0⟩))],2⟩=some ⟨True,.str z1,⟨[(1,.cells [.ptr 0 0]),(0,.cells (runC ⟨m,cs,z3⟩))],2⟩,[0,1],[0]⟩:=t1
  clear t1
  obtain⟨T,W,N,E⟩:=m
  unfold mdlV at p1 ⊢
  unfold runC at p1 t2
  dsimp only at p1 t2 hR ⊢
  simp (disch:=first|assumption|(push_cast<;>omega)|omega) only [go_sem,p1,t2]
  refine AXc.introN (fun h1=>?_) (fun h1=>?_)
  ·rw [if_pos h1]at hR
   rw [hR]
   simp (disch:=first|assumption|(push_cast<;>omega)|omega) only [go_sem]
   refine AXk.intro (by kernel_rfl) ?_
   simp (disch:=first|assumption|(push_cast<;>omega)|omega) only [go_sem]
  rw [if_neg (fun k=>k h1)]at hR
  rw [hR]
  simp (disch:=first|assumption|(push_cast<;>omega)|omega) only [go_sem]
theorem zpI(m:Mdl)(cs:List Nat)(ls:List (List Nat)):∀ k,(totL m cs ls k).1.length≤1000
 |0=>by simp [totL]
 |k+1=>by
  rw [totL];split
  ·exact zpI m cs ls k
  ·split
   ·simp
   ·exact zpX _ _
theorem zpJ(m:Mdl)(cs:List Nat)(ls:List (List Nat))(k:Nat)(h:(totL m cs ls k).2≠0):∀ d,(totL m cs ls (k+d)).2=(totL m cs ls k).2
 |0=>rfl
 |d+1=>by have ih:=zpJ m cs ls k h d;rw [show k+(d+1)=(k+d)+1 from rfl,totL,if_pos (by rw [ih];exact h),ih]
noncomputable def zge(m:Mdl)(ws:List Str):Str×Int:=
 if (vmB m&&zbn ws)=false then([],1)else
 if (totF m (zu m ws)).2≠0 then([],(totF m (zu m ws)).2)else((totF m (zu m ws)).1,0)
set_option maxHeartbeats 8000000 in
set_option maxRecDepth 100000 in
theorem zve(m:Mdl)(ws:List Str)(hf:Fit m)(h3:m.tags.length≤3)(hw:ws.length≤4)(hs:∀ s∈ws,s.length≤1000000000000000)(hl:∀ i j,(nx m i j).length≤1000000000∧(em m i j).length≤1000000000):
 PCall Tryz.prog 29 [mdlV m,.fs (strs ws) ws.length] (.ret (.tup [.str (zge m ws).1,.int .i64 (zge m ws).2])):=by
 have hΓ:=zf cTRVM_ok (zf ztK (zf zzm (zf cProb_ok (zf zyQ zh))))
 have p1:=cTRVM_eq m hf
 have p2:=ztL ws (by omega) hs
 have p3:=zzn m.tags.length ws.length h3 hw
 have p4:vmB m=true→∀ l∈LL m.tags.length ws.length,cProb [mdlV m,.fs (strs ws) ws.length,.fs (nats .i64 l) l.length]=some (.ret (.tup [.str (prob m (zu m ws) l).1,.int .i64 (prob m (zu m ws) l).2])):=fun hv l h=>
  cProb_eq m ws l ⟨hf,hv,show ws.length≤1000000 by omega,zjs _ _ _ h,fun i hi=>zq3 _ _ _ h _ (by have hi':i<l.length:=hi;show l.getD i 0∈l;rw [List.getD_eq_getElem?_getD,List.getElem?_eq_getElem hi'];exact List.getElem_mem _),hl⟩
 obtain⟨R,hR⟩:∃ R,R=zge m ws:=⟨_,rfl⟩
 rw [←hR]
 unfold zge at hR
 have hcl:(zu m ws).length=ws.length:=by simp [zu]
 refine PCall.walk (rs:=[.tmp 4,.tmp 5]) [0,1,2,4,5,6,7,8,9,10,18,28,42,50] [25] mixed (hΓ) (zg) call29 Tryz.func29 rfl Tryz.ntmps29 rfl (by kernel_rfl) (by simp) (by simp [push_cast,zbZ]) ?_
 cases hb:(vmB m&&zbn ws)with
 |false=>
  rw [if_pos hb]at hR
  rw [hR]
  clear p3 p4 hl hcl h3 hf hR
  have cond:(!vmB m|| !zbn ws)=true:=by revert hb;cases vmB m<;>cases zbn ws<;>simp
  generalize vmB m=bv at*
  generalize zbn ws=bw at*
  obtain⟨T,W,N,E⟩:=m
  unfold mdlV at p1 ⊢
  dsimp only at p1 ⊢
  simp (disch:=first|assumption|(push_cast<;>omega)|omega) only [go_sem,p1,p2]
  rw [cond]
  simp (disch:=first|assumption|(push_cast<;>omega)|omega) only [go_sem]
 |true=>
  obtain⟨hv1,hv2⟩:vmB m=true∧zbn ws=true:=by simpa using hb
  rw [if_neg (by rw [hb];simp)]at hR
  replace p4:=p4 hv1
  rw [hv1]at p1
  rw [hv2]at p2
  have sE:∀ k,k≤(LL m.tags.length ws.length).length→(totL m (zu m ws) (LL m.tags.length ws.length) k).2≠0→R=([],(totL m (zu m ws) (LL m.tags.length ws.length) k).2):=fun k hk h=>by
   have e:=zpJ m (zu m ws) (LL m.tags.length ws.length) k h ((LL m.tags.length ws.length).length - k);rw [show k+((LL m.tags.length ws.length).length - k)=(LL m.tags.length ws.length).length by omega]at e;have e':(totF m (zu m ws)).2=(totL m (zu m ws) (LL m.tags.length ws.length) k).2:=by unfold totF;rw [hcl];exact e
   rw [if_pos (by rw [e'];exact h),e']at hR;exact hR
  have sF:(totL m (zu m ws) (LL m.tags.length ws.length) (LL m.tags.length ws.length).length).2=0→R=((totL m (zu m ws) (LL m.tags.length ws.length) (LL m.tags.length ws.length).length).1,0):=fun h=>by
   have e':totF m (zu m ws)=totL m (zu m ws) (LL m.tags.length ws.length) (LL m.tags.length ws.length).length:=by unfold totF;rw [hcl]
   rw [e',if_neg (by rw [h];simp)]at hR;exact hR
  have ss:∀ k,(totL m (zu m ws) (LL m.tags.length ws.length) k).2=0→totL m (zu m ws) (LL m.tags.length ws.length) (k+1)=if (prob m (zu m ws) ((LL m.tags.length ws.length).getD k [])).2≠0 then([],(prob m (zu m ws) ((LL m.tags.length ws.length).getD k [])).2)else
   padd (totL m (zu m ws) (LL m.tags.length ws.length) k).1 (prob m (zu m ws) ((LL m.tags.length ws.length).getD k [])).1:=fun k h=>by
   rw [totL,if_neg (by rw [h];simp)]
  have s0:totL m (zu m ws) (LL m.tags.length ws.length) 0=([48],0):=rfl
  have sl:=zpI m (zu m ws) (LL m.tags.length ws.length)
  have pl:=fun l=>prob_len m (zu m ws) l
  have hll:(LL m.tags.length ws.length).length≤81:=by rw [zgH];exact Nat.le_trans (Nat.pow_le_pow_left h3 _) (Nat.le_trans (Nat.pow_le_pow_right (by decide) hw) (by decide))
  generalize totL m (zu m ws) (LL m.tags.length ws.length)=S at sE sF ss s0 sl
  generalize prob m (zu m ws)=Q at p4 ss pl
  generalize LL m.tags.length ws.length=L at p3 p4 sE sF ss hll
  clear hR hb hcl hl hf
  obtain⟨T,W,N,E⟩:=m
  unfold mdlV at p1 p4 ⊢
  dsimp only at p1 p3 p4 h3 ⊢
  simp (disch:=first|assumption|(push_cast<;>omega)|omega) only [go_sem,p1,p2,p3]
  refine AXs.loop mixed (hΓ) (zg) (fun i:Nat=>[(1,.fs (strs ws) ws.length),(2,.fp [.fs (strs T) T.length,.fs (strs W) W.length,.fs (zJ N) N.length,.fs (zJ E) E.length]),(6,.str (S i).1),(7,.fs (zbe L) L.length),(8,.int .i64 i)]) (fun _=>⟨[],0⟩) (fun i=>i≤L.length∧(S i).2=0) (fun i=>L.length - i) 0 (by kernel_rfl) ⟨Nat.zero_le _,by rw [s0]⟩ (Sub.of0 [] rfl rfl ?_ ?_) ?_
  ·simp only [go_sem,s0]
  ·simp only [go_sem]
  rintro i ⟨h1,h2⟩
  simp (disch:=first|assumption|(push_cast<;>omega)|omega) only [go_sem]
  refine AXc.introP (fun h4=>?_) (fun h4=>?_)
  ·have hi:i<L.length:=by omega
   have hrat:=zpS L i hi
   have pi:=p4 (L.getD i []) (by rw [List.getD_eq_getElem?_getD,List.getElem?_eq_getElem hi];exact List.getElem_mem _)
   have si:=ss i h2
   have se:=sE (i+1) (by omega)
   have l1:=pl (L.getD i [])
   have l2:=sl i
   generalize Q (L.getD i [])=q at pi si l1
   obtain⟨q1,q2⟩:=q
   dsimp only at pi si l1
   generalize L.getD i []=row at hrat pi si
   simp (disch:=first|assumption|(push_cast<;>omega)|omega) only [go_sem,hrat,pi]
   (repeat refine sdC ?_)
   refine AXc.introP (fun h5=>?_) (fun h5=>?_)
   ·rw [if_neg (fun k=>k h5)]at si
    have pa:=cR3Add_p (S i).1 q1 (by omega) (by omega)
    generalize padd (S i).1 q1=z at si pa
    obtain⟨z1,z2⟩:=z
    dsimp only at pa
    simp (disch:=first|assumption|(push_cast<;>omega)|omega) only [go_sem,pa]
    refine AXc.introN (fun h6=>?_) (fun h6=>?_)
    ·rw [se (by rw [si];exact h6),si]
     simp (disch:=first|assumption|(push_cast<;>omega)|omega) only [go_sem]
    ·simp (disch:=first|assumption|(push_cast<;>omega)|omega) only [go_sem]
     try (repeat refine sdC ?_)
     refine zk (i+1) ⟨by omega,by rw [si];exact h6⟩ (by omega) ?_
     rw [si]
     refine Sub.of0 [] rfl rfl ?_ ?_
     ·simp only [go_sem]
      try simp
     ·simp only [go_sem]
   ·rw [if_pos h5]at si
    simp (disch:=first|assumption|(push_cast<;>omega)|omega) only [go_sem]
    refine AXc.introN (fun h6=>?_) (fun h6=>absurd h6 h5)
    rw [se (by rw [si];exact h6),si]
    simp (disch:=first|assumption|(push_cast<;>omega)|omega) only [go_sem]
  ·obtain rfl:i=L.length:=by omega
   rw [sF h2]
   simp only [go_sem]
   refine AXa.go mixed (hΓ) (zg) (by kernel_rfl) ?_
   simp (disch:=first|assumption|(push_cast<;>omega)|omega) only [go_sem]
end Go.Proofs

namespace Go.Proofs
open Go.Ab Go.Cnt Go.Pl Go.Tg
noncomputable def cTotal:List V→Option PR:=zB (fun p:Mdl×List Str=>[mdlV p.1,.fs (strs p.2) p.2.length]) TagOK fun p=>.ret (.tup [.str (totR p.1 p.2).1,.int .i64 (totR p.1 p.2).2])
theorem zys(m:Mdl)(ws:List Str)(h:TagOK (m,ws)):cTotal [mdlV m,.fs (strs ws) ws.length]=some (.ret (.tup [.str (totR m ws).1,.int .i64 (totR m ws).2])):=
 zo (pat:=fun p:Mdl×List Str=>[mdlV p.1,.fs (strs p.2) p.2.length]) zp4 (m,ws) h
theorem zyr:∀ args r,cTotal args=some r→PCall Tryz.prog 14 args r:=zn fun p h=>total_ok p.1 p.2 h.1 h.2.1 h.2.2
noncomputable def zyE:List V→Option PR:=zB (fun p:Mdl×List Str=>[mdlV p.1,.fs (strs p.2) p.2.length]) (fun p=>Fit p.1∧p.1.tags.length≤3∧p.2.length≤4∧(∀ s∈p.2,s.length≤1000000000000000)∧∀ i j,(nx p.1 i j).length≤1000000000∧(em p.1 i j).length≤1000000000) fun p=>.ret (.tup [.str (zge p.1 p.2).1,.int .i64 (zge p.1 p.2).2])
theorem ztN(m:Mdl)(ws:List Str)(hf:Fit m)(h3:m.tags.length≤3)(hw:ws.length≤4)(hs:∀ s∈ws,s.length≤1000000000000000)(hl:∀ i j,(nx m i j).length≤1000000000∧(em m i j).length≤1000000000):zyE [mdlV m,.fs (strs ws) ws.length]=some (.ret (.tup [.str (zge m ws).1,.int .i64 (zge m ws).2])):=
 zo (pat:=fun p:Mdl×List Str=>[mdlV p.1,.fs (strs p.2) p.2.length]) zp4 (m,ws) ⟨hf,h3,hw,hs,hl⟩
theorem ztM:∀ args r,zyE args=some r→PCall Tryz.prog 29 args r:=zn fun p h=>zve p.1 p.2 h.1 h.2.1 h.2.2.1 h.2.2.2.1 h.2.2.2.2
theorem znA(m:Mdl)(ws:List Str):totR m ws=zge m ws∨zie (totR m ws).2 (zge m ws).2 m ws=true:=by
 unfold totR zge;by_cases hb:(vmB m&&zbn ws)=false
 ·rw [if_pos hb,if_pos hb];exact .inl rfl
 rw [if_neg hb,if_neg hb];have hv:vmB m=true:=by
  cases h:vmB m with
  |true=>rfl
  |false=>exact absurd (by rw [h];rfl) hb
 have hcl:(zu m ws).length=ws.length:=by simp [zu]
 obtain⟨N,E,b,DN,DE,Df,H,hB⟩:=nums_ex hv (zu m ws) (fun c hc=>by unfold zu at hc;obtain⟨s,_,rfl⟩:=List.mem_map.1 hc;exact zhy _ _) ws hcl;have hB':Bd (zcV m ws=true) m (zu m ws) DN DE Df:=fun h=>by have h':=h;unfold zcV at h';simp only [Bool.and_eq_true,decide_eq_true_eq]at h';exact⟨h'.1.1,by rw [hcl];exact h'.1.2,hB h⟩
 have lg:∀ e f:Int,(e=2∨f=2)→¬zcV m ws=true→zie e f m ws=true:=fun e f h k=>by
  unfold zie;rw [show zcV m ws=false by simpa using k];rcases h with h|h
  ·rw [decide_eq_true h];rfl
  ·rw [decide_eq_true h,Bool.or_true];rfl
 have o1:=finS_oc H hB';have o2:=totF_oc H hB';generalize totF m (zu m ws)=y at o2 ⊢;generalize finT stS plS m [48] [49] (zu m ws)=x at o1 ⊢;obtain⟨x1,x2⟩:=x;obtain⟨y1,y2⟩:=y;dsimp only at o1 o2 ⊢;rcases o1 with⟨e1,r1⟩|⟨e1,n1⟩
 ·rcases o2 with⟨e2,r2⟩|⟨e2,n2⟩
  ·rw [r1.uniq r2,e1,e2];exact .inl rfl
  ·refine .inr (lg _ _ (.inr ?_) n2);rw [if_pos (by rw [e2];decide)];exact e2
 ·refine .inr (lg _ _ (.inl ?_) n1);rw [if_pos (by rw [e1];decide)];exact e1
set_option maxHeartbeats 8000000 in
set_option maxRecDepth 100000 in
theorem zrl(m:Mdl)(ws:List Str)(hi:InM m ws):PCall Tryz.prog 7 [mdlV m,.fs (strs ws) ws.length] (.ret (.bool true)):=by
 have hΓ:=zf ztD (zf cTAwk_ok (zf zyr (zf ztM (zf ztU zh))));have e1:=ztE m ws hi;have hfit:=fitB_fit hi;have hsz:fitB m ws=true→m.tags.length≤3:=fun h=>by unfold fitB at h;simp only [Bool.and_eq_true,decide_eq_true_eq]at h;exact h.1.1
 refine PCall.walk (rs:=[.tmp 4]) [0,1,2,4,5,6,7,8,11] [25] mixed (hΓ) (zg) call7 Tryz.func7 rfl Tryz.ntmps7 rfl (by kernel_rfl) (by simp) (by simp [push_cast,zbZ]) ?_;cases hfb:fitB m ws with
 |false=>
  rw [hfb]at e1;clear hfit hsz;obtain⟨T,W,N,E⟩:=m;unfold mdlV at e1 ⊢;dsimp only at e1 ⊢;simp (disch:=first|assumption|(push_cast<;>omega)|omega) only [go_sem,e1]
 |true=>
  rw [hfb]at e1;obtain⟨hf,h4,hl⟩:=hfit hfb;have e2:=zys m ws ⟨hf,show ws.length≤1000 by omega,hl⟩;have e3:=ztN m ws hf (hsz hfb) h4 hi.s hl;have hs:=znA m ws;have e4:=fun e f=>ztV e f m ws hf (by omega);generalize totR m ws=z at*;generalize zge m ws=y at*;obtain⟨z1,z3⟩:=z;obtain⟨y1,y3⟩:=y;dsimp only at e2 e3 hs;replace e4:=e4 z3 y3;have key:(zie z3 y3 m ws||(decide (z3=y3)&&decide (z1=y1)))=true:=by
   rcases hs with hs|hs
   ·cases hs;simp
   ·rw [hs];rfl
  generalize zie z3 y3 m ws=lb at e4 key;clear hs hi hl hf hfb hsz hfit;obtain⟨T,W,N,E⟩:=m;unfold mdlV at e1 e2 e3 e4 ⊢;dsimp only at e1 e2 e3 e4 ⊢;simp (disch:=first|assumption|(push_cast<;>omega)|omega) only [go_sem,e1,e2,e3,e4];exact⟨fun h=>⟨h,fun k=>by rw [h,k];rfl⟩,key⟩
end Go.Proofs

namespace Go.Proofs
open Go.Ab Go.Cnt Go.Pl
theorem totals_in(p:MdlT)(w:List Str)(h:okM p)(hw:okS w):
 PCall Tryz.prog 7 [.agg (mdlR.enc p),.fs (strR.cells w) w.length] (.ret (.bool true)):=by
 rw [mdl_enc,zd7]
 exact zrl _ w (inM_of h hw)
end Go.Proofs

namespace Go.Proofs.YthbimeikbkjnkaaGreatDoor
open Go.ChangeShapes Go.WideShapes Go.ChangeAt Go.WideMaps Go.WideElems Go.RowKit
theorem ownK:ownKnob Tryz.prog.godebug=none:=by kernel_rfl
theorem zqg:laidOutB Tryz.prog=true:=by kernel_rfl
abbrev zos:List (String×DataW Unit):=[("math/bits.deBruijn32tab",Rows.laid_math_bits_deBruijn32tab),("math/bits.deBruijn64tab",Rows.laid_math_bits_deBruijn64tab),("internal/strconv.uint64pow10",Rows.laid_internal_strconv_uint64pow10)]
theorem door_met(os:Os):laidMetH Tryz.prog zos ((World.doorLaid Tryz.prog 400 os).forCall (fun _ _=>0) ⟨#[],#[.agg #[.slice none 0 0,.slice none 0 0,.slice none 0 0,.slice none 0 0],.slice none 0 0],[]⟩).memory:=
 laidMetH_of_parts3 (fuel:=8) (laidMet_of_run' 8 (by kernel_rfl) (by kernel_rfl)) (by kernel_rfl) (by kernel_rfl)
def tens:List Int:=(List.range 20).map fun i=>((10 ^ i:Nat):Int)
theorem zrm:(Rows.laid_internal_strconv_uint64pow10:DataW Unit)=Lib.tabData .u64 tens:=by kernel_rfl
theorem gTab:Tryz.prog.globalNamed "internal/strconv.uint64pow10" =some 1:=by kernel_rfl
theorem gTabT:(Tryz.prog.globals[1]?).map (·.type)=some 262:=by kernel_rfl
theorem underA:Tryz.prog.underlying 262=some (.array 20 185):=by kernel_rfl
theorem underU:Tryz.prog.underlying 185=some (.int .u64):=by kernel_rfl
theorem cellsU:Tryz.prog.cellsOf 185=1:=by kernel_rfl
theorem cellsA:Tryz.prog.cellsOf 262=20:=by kernel_rfl
theorem tab_of {W:World}(h:laidMetH Tryz.prog zos W):∃ t fr,W.heap[1]? =some (.cells (tens.map fun z=>Value.int .u64 z).toArray t fr):=by
 rw [MakeChecks.laidMetH_plain _ _ _ (by kernel_rfl)]at h;have h2:=h.tail.tail;rw [zrm]at h2;have h3:W.var? Tryz.prog "internal/strconv.uint64pow10" =some (tens.map fun z=>Value.int .u64 z).toArray:=Lib.tabIs_of_head gTab gTabT underA underU cellsU cellsA h2;unfold World.var? at h3;rw [gTab]at h3;simp only [Option.bind_some]at h3;cases hb:W.heap[1]? with
 |none=>rw [hb]at h3;cases h3
 |some o=>
  rw [hb]at h3;cases o<;>first|(cases h3;exact⟨_,_,rfl⟩)|cases h3
theorem gok_of {W:World}(h:laidMetH Tryz.prog zos W):Go.Ab.GOK (Go.Ab.gW W):=by
 obtain⟨t,fr,hb⟩:=tab_of h;have hphi:=Go.Ab.gW_of hb;intro k cs e;have e':(if k=1 then some Go.Ab.pow10V else none)=some cs:=e;split at e';rotate_left;·cases e'
 rename_i hk;cases e';subst hk;have hsz:(tens.map fun z=>Value.int .u64 z).toArray.size=Go.Ab.pow10V.length:=by kernel_rfl
 refine⟨Go.Ab.VRel.mk_fp hphi ?_,_,hphi,hsz⟩;intro i x hx;have hi:i<20:=(List.getElem?_eq_some_iff.1 hx).1;refine⟨.int .u64 ((10 ^ i:Nat):Int),?_,?_⟩
 ·show (tens.map fun z=>Value.int .u64 z).toArray[0+i]? =_;rw [Nat.zero_add];simp [tens,hi]
 ·have:Go.Ab.pow10V[i]? =some (.int .u64 ((10 ^ i:Nat):Int)):=by simp [Go.Ab.pow10V,hi]
  rw [this]at hx;cases hx;exact .int _ _
theorem call_of {W:World}(h:laidMetH Tryz.prog zos W){args:Array Value}{vs:List Go.Ab.V}(hc:Go.Ab.PCall Tryz.prog 7 vs (.ret (.bool true)))(hs:args.size=vs.length)(hp:Go.Ab.PW (Go.Ab.gW W) vs (fun i=>args[i]?)):
 Calls Tryz.prog 7 args W fun e W'=>e=.returned (.bool true)∧Below W.heap.size W W':=by
 have hc':=hc (Go.Ab.gW W) W args (gok_of h) Go.Ab.gW_frz hs hp
 refine(zd4 (Go.Ab.canB_ok (by kernel_rfl)) hc').mono fun e W' q=>?_
 obtain⟨phi',vc,_,hbel,rfl,hv⟩:=q
 rw [hv.inv_bool]
 exact⟨rfl,hbel.os,hbel.tape.eq,hbel.output,hbel.size,hbel.block⟩
theorem zvT:Tryz.f7.params.toList=[25,22]:=by kernel_rfl
theorem stand22:Tryz.pinned.checked.prog.wantsStandIn (22:Nat)=false:=by kernel_rfl
theorem stand25:Tryz.pinned.checked.prog.wantsStandIn (25:Nat)=false:=by kernel_rfl
set_option maxRecDepth 100000 in
theorem lifted(os:Os)(started:os.Started)(H:Type)(enc:TypeId×Value→H):
 ReturnsInHanded {} Tryz.checked os 7 .any (fun w args=>(Rows.taggerTotalsSpec.pre enc Tryz.prog Tryz.f7 [] false w args∧laidMetH Tryz.prog zos w)∧sizedMet enc Tryz.prog Tryz.f7 (OpenSpec.ofChange Rows.taggerTotalsSpec) false w args)
  (Rows.taggerTotalsSpec.post enc Tryz.prog Tryz.f7 false true false false):=by
 refine returnsInHanded_of_change_and (C:=Tryz.checked) (X:=fun w _=>laidMetH Tryz.prog zos w) (fun _ _ _ hh h=>h.of_heap hh) ownK started (by kernel_rfl) Tryz.func7
  (ChangeSpec.witness_shaped (enc:=enc) (C:=Tryz.checked) (os:=os) (X:=fun w _=>laidMetH Tryz.prog zos w) false (World.doorLaid Tryz.prog 400 os) #[.agg #[.slice none 0 0,.slice none 0 0,.slice none 0 0,.slice none 0 0],.slice none 0 0] 8 rfl (World.shaped_of_RefB (by kernel_rfl) (by kernel_rfl)) (by kernel_rfl) (by kernel_rfl) (by kernel_rfl) (door_met os)) ?_
 intro W base args ds gs before hval0 hW _ hwt hL _
 have hW':=hW
 obtain⟨p,q,hA0,hV,rfl,hfz,hnd⟩:=hW
 have hA:DataW.TrodAll enc Tryz.prog W 0 (fun _=>true) true Tryz.f7.params.toList args.toList ds p:=hA0
 rw [zvT]at hA
 obtain⟨v0,v1,d0,d1,p0,p1,rfl,rfl,rfl,h0,h1⟩:=trodAll_two hA
 obtain⟨rfl,rfl⟩:=trodVars_none hV
 have hlt:=DataW.TrodAll.lt hA
 have hwt':∀ n∈DataW.weightsEach Tryz.prog [25,22] [d0,d1],n≤reachBytes:=fun n hn=>by have:=List.all_eq_true.1 hwt n (by rw [zvT,show Rows.taggerTotalsSpec.plain.varTypes Tryz.checked.prog=[]from rfl,List.append_nil,List.append_nil];exact hn);simpa using this
 simp only [Go.Ab.weightsEach_cons]at hwt'
 have w0:∀ n∈d0.weights Tryz.prog 25,n≤reachBytes:=fun n hn=>hwt' n (List.mem_append_left _ hn)
 have w1:∀ n∈d1.weights Tryz.prog 22,n≤reachBytes:=fun n hn=>hwt' n (List.mem_append_right _ (List.mem_append_left _ hn))
 have hv0:Value.okWide Tryz.prog W .any base 25 v0:=hval0 0 25 v0 rfl rfl
 have c0:∃ cs,v0=.agg cs:=by obtain⟨cs,e,_⟩:=okWide_struct Tryz.underlying25 hv0;exact⟨cs,e⟩
 obtain⟨a0,o0,r0⟩:=Go.Proofs.dMdl.argS h0 c0 w0
 have hv1:Value.okWide Tryz.prog W .any base 22 v1:=hval0 1 22 v1 rfl rfl
 have c1:v1.cells=#[v1]:=by obtain⟨_,_,_,e⟩:=okWide_slice Tryz.underlying22 hv1;rw [e];rfl
 obtain⟨a1,o1,r1⟩:=Go.Proofs.dStrs.arg1 h1 c1 w1
 replace r1:=r1 _ rfl
 refine(call_of hL (Go.Proofs.totals_in a0 a1 o0 o1) rfl (fun i x hx=>by
  match i with
  |0=>cases hx;exact⟨v0,rfl,r0⟩
  |1=>cases hx;exact⟨v1,rfl,r1⟩
  |i+2=>simp at hx)).mono fun e W' ⟨he,bel⟩=>?_
 subst he
 have k0:=Below.trod zqg (by kernel_rfl) (of_decide_eq_true (by kernel_rfl)) h0 bel (fun x hx=>hlt x (List.mem_append_left _ hx))
 have k1:=Below.trod zqg (by kernel_rfl) (of_decide_eq_true (by kernel_rfl)) h1 bel (fun x hx=>hlt x (List.mem_append_right _ hx))
 exact⟨_,rfl,_,_,_,[],_,[],hW',trodAll_mk1 (shut_bool Tryz.underlying4 _),trodAll_mk2 k0 k1,rfl,bel.frame _,fun h=>by cases h⟩
theorem said:Rows.TaggerTotalsSaid:=
 OpenClaim.holds_of_wide 7 Tryz.f7 rfl rfl rfl rfl rfl rfl rfl ⟨rfl,rfl,rfl,rfl,rfl⟩ rfl rfl rfl rfl rfl (by kernel_rfl) Tryz.func7 (by kernel_rfl)
  (of_decide_eq_true (by kernel_rfl)) (by unfold Func.isWrapper;first|(rw [if_pos (by decide+kernel)];kernel_rfl)|(rw [if_neg (by decide+kernel)];exact⟨rfl,rfl⟩))
  (fun os started H enc _=>lifted os started H enc)
theorem totals_holds:Rows.TaggerTotalsCardSaid:=
 Claim7.holds_tied_plain_at .later [] [.data,.data,.data] true (true, "d3bf08ebd9ea1bcaa5cb35fb73af600287fdc0001c94dc43560aeefca0fab896") true
  said (fun _ h=>by cases h) (by kernel_rfl) (fun _ h=>by cases h) taggerTotals_row_tie rfl ⟨rfl,rfl⟩ (by kernel_rfl) rfl
  (fun f fn hf hfn=>by
   obtain rfl:f=7:=Option.some.inj ((show Tryz.prog.funcNamed "abugida/abugidalaw36.TaggerTotals" =some 7 by kernel_rfl).symm.trans hf) |>.symm
   obtain rfl:fn=Tryz.f7:=(Option.some.inj (Tryz.func7.symm.trans hfn)).symm;exact⟨by kernel_rfl,fun j t ht=>by
    rw [Tryz.params7]at ht;match j with
    |0=>exact(Option.some.inj ht:(25:Nat)=t)▸stand25
    |1=>exact(Option.some.inj ht:(22:Nat)=t)▸stand22
    |j+2=>simp at ht⟩)
  (by kernel_rfl)
#print axioms totals_holds
end Go.Proofs.YthbimeikbkjnkaaGreatDoor
