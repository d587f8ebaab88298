/- The reference's Tag, and the statement's own function. -/
import Derived.Test.YthbimeikbkjnkaaGreatDoorBT11
import Derived.Test.YthbimeikbkjnkaaGreatDoorCards
import Derived.Test.YthbimeikbkjnkaaGreatDoorTie
import Derived.ProofKit
import Derived.LaidMore
import Derived.OpenShut
import Derived.Stop.Joined
import Derived.Stop.LaidErr
import Derived.SevenTiedAt
import Derived.Lib.LaidTab
import Derived.Carry
set_option linter.all false
namespace Go.Proofs
open Go.Ab Go.Cnt Go.Pl Go.Tg
noncomputable def cLists:List V→Option PR:=zB (fun p:Nat×Nat=>[.int .i64 p.1,.int .i64 p.2]) (fun p=>p.1≤3∧p.2≤4) fun p=>.ret (.fs (zbf (LL p.1 p.2)) (LL p.1 p.2).length)
theorem zzy(n T:Nat)(hn:n≤3)(hT:T≤4):cLists [.int .i64 n,.int .i64 T]=some (.ret (.fs (zbf (LL n T)) (LL n T).length)):=
 zo (pat:=fun p:Nat×Nat=>[V.int .i64 p.1,.int .i64 p.2]) (fun x y h=>by simp only [List.cons.injEq,V.int.injEq,and_true,true_and]at h;exact Prod.ext (by omega) (by omega)) (n,T) ⟨hn,hT⟩
theorem zzx:∀ args r,cLists args=some r→PCall Tryz.prog 45 args r:=zn fun p h=>lists_ok p.1 p.2 h.1 h.2
theorem zp1(m:Mdl)(cs js:List Nat):(prob m cs js).1.length≤1000:=by
 unfold prob;split
 ·simp
 ·exact zgs _ _
theorem zjC(m:Mdl)(cs:List Nat)(ls:List (List Nat)):∀ k,(tagL m cs ls k).1.1.length≤1000
 |0=>by simp [tagL]
 |k+1=>by
  rw [tagL];split
  ·exact zjC m cs ls k
  ·split
   ·simp
   ·split
    ·exact zp1 _ _ _
    ·exact zjC m cs ls k
theorem zjB(m:Mdl)(cs:List Nat)(ls:List (List Nat)):∀ k,k≤ls.length→(tagL m cs ls k).1.2=[]∨(tagL m cs ls k).1.2∈ls
 |0,_=>.inl rfl
 |k+1,h=>by
  rw [tagL];split
  ·exact zjB m cs ls k (by omega)
  ·split
   ·exact .inl rfl
   ·split
    ·refine .inr ?_;show ls.getD k []∈ls;rw [List.getD_eq_getElem?_getD,List.getElem?_eq_getElem (by omega)];exact List.getElem_mem _
    ·exact zjB m cs ls k (by omega)
theorem zpN(m:Mdl)(cs:List Nat)(ls:List (List Nat))(k:Nat)(h:(tagL m cs ls k).2≠0):∀ d,(tagL m cs ls (k+d)).2=(tagL m cs ls k).2
 |0=>rfl
 |d+1=>by have ih:=zpN m cs ls k h d;rw [show k+(d+1)=(k+d)+1 from rfl,tagL,if_pos (by rw [ih];exact h),ih]
noncomputable def zeU(m:Mdl)(ws:List Str):(List Str×Str)×Int:=
 if (vmB m&&zbq ws)=false then(([],[]),1)else
 if (tagF m (zq m ws)).2≠0 then(([],[]),(tagF m (zq m ws)).2)else
 if (tagF m (zq m ws)).1.1=[48]then(([],[]),4)else
 (((tagF m (zq m ws)).1.2.map fun t=>m.tags.getD t [],(tagF m (zq m ws)).1.1),0)
theorem zpO(m:Mdl)(cs:List Nat):(∀ t∈(tagF m cs).1.2,t<m.tags.length)∧(tagF m cs).1.2.length≤cs.length:=by
 rcases zjB m cs (LL m.tags.length cs.length) _ (Nat.le_refl _)with h|h
 ·unfold tagF;rw [h];exact⟨fun t ht=>(by cases ht),Nat.zero_le _⟩
 ·exact⟨znu _ _ _ h,Nat.le_of_eq (zc8 _ _ _ h)⟩
set_option maxHeartbeats 8000000 in
set_option maxRecDepth 100000 in
theorem rtag_ok(m:Mdl)(ws:List Str)(hf:Fit m)(h3:m.tags.length≤3)(hw:ws.length≤4)(hs:∀ s∈ws,s.length≤1000000000000000)(hl:∀ i j,(nx m i j).length≤1000000000∧(em m i j).length≤1000000000):
 PCall Tryz.prog 19 [mdlV m,.fs (strs ws) ws.length] (.ret (.tup [.fs (strs (zeU m ws).1.1) (zeU m ws).1.1.length,.str (zeU m ws).1.2,.int .i64 (zeU m ws).2])):=by
 have hΓ:=zg cTRVM_ok (zg zt2 (zg zzx (zg cProb_ok (zg zm1 zh))))
 have p1:=cTRVM_eq m hf
 have p2:=zt3 ws (by omega) hs
 have p3:=zzy m.tags.length ws.length h3 hw
 have p4:vmB m=true→∀ l∈LL m.tags.length ws.length,cProb [mdlV m,.fs (strs ws) ws.length,.fs (nats .i64 l) l.length]=some (.ret (.tup [.str (prob m (zq m ws) l).1,.int .i64 (prob m (zq m ws) l).2])):=fun hv l h=>
  cProb_eq m ws l ⟨hf,hv,show ws.length≤1000000 by omega,zc8 _ _ _ h,fun i hi=>znu _ _ _ h _ (by have hi':i<l.length:=hi;show l.getD i 0∈l;rw [List.getD_eq_getElem?_getD,List.getElem?_eq_getElem hi'];exact List.getElem_mem _),hl⟩
 obtain⟨R,hR⟩:∃ R,R=zeU m ws:=⟨_,rfl⟩
 rw [←hR]
 unfold zeU at hR
 have hcl:(zq m ws).length=ws.length:=by simp [zq]
 refine PCall.walk (rs:=[.tmp 4,.tmp 5,.tmp 6]) [0,1,2,4,5,6,7,8,9,10,11,12,13,14,22,32,46,51,58,62] [25] mixed (hΓ) (zf) call19 Tryz.func19 rfl Tryz.ntmps19 rfl (by kernel_rfl) (by simp) (by simp [push_cast,zb1]) ?_
 cases hb:(vmB m&&zbq ws)with
 |false=>
  rw [if_pos hb]at hR
  rw [hR]
  clear p3 p4 hl hcl h3 hf hR
  have cond:(!vmB m|| !zbq ws)=true:=by revert hb;cases vmB m<;>cases zbq ws<;>simp
  generalize vmB m=bv at*
  generalize zbq ws=bw at*
  obtain⟨T,W,N,E⟩:=m
  unfold mdlV at p1 ⊢
  dsimp only at p1 ⊢
  simp (disch:=first|assumption|(push_cast<;>omega)|omega) only [go_sem,p1,p2]
  rw [cond]
  simp (disch:=first|assumption|(push_cast<;>omega)|omega) only [go_sem]
 |true=>
  obtain⟨hv1,hv2⟩:vmB m=true∧zbq ws=true:=by simpa using hb
  rw [if_neg (by rw [hb];simp)]at hR
  replace p4:=p4 hv1
  rw [hv1]at p1
  rw [hv2]at p2
  have sE:∀ k,k≤(LL m.tags.length ws.length).length→(tagL m (zq m ws) (LL m.tags.length ws.length) k).2≠0→R=(([],[]),(tagL m (zq m ws) (LL m.tags.length ws.length) k).2):=fun k hk h=>by
   have e:=zpN m (zq m ws) (LL m.tags.length ws.length) k h ((LL m.tags.length ws.length).length - k);rw [show k+((LL m.tags.length ws.length).length - k)=(LL m.tags.length ws.length).length by omega]at e;have e':(tagF m (zq m ws)).2=(tagL m (zq m ws) (LL m.tags.length ws.length) k).2:=by unfold tagF;rw [hcl];exact e
   rw [if_pos (by rw [e'];exact h),e']at hR;exact hR
  have sF:(tagL m (zq m ws) (LL m.tags.length ws.length) (LL m.tags.length ws.length).length).2=0→R=if (tagL m (zq m ws) (LL m.tags.length ws.length) (LL m.tags.length ws.length).length).1.1=[48]then(([],[]),4)else
   (((tagL m (zq m ws) (LL m.tags.length ws.length) (LL m.tags.length ws.length).length).1.2.map fun t=>m.tags.getD t [],(tagL m (zq m ws) (LL m.tags.length ws.length) (LL m.tags.length ws.length).length).1.1),0):=fun h=>by
   have e':tagF m (zq m ws)=tagL m (zq m ws) (LL m.tags.length ws.length) (LL m.tags.length ws.length).length:=by unfold tagF;rw [hcl]
   rw [e',if_neg (by rw [h];simp)]at hR
   exact hR
  have ss:∀ k,(tagL m (zq m ws) (LL m.tags.length ws.length) k).2=0→tagL m (zq m ws) (LL m.tags.length ws.length) (k+1)=if (prob m (zq m ws) ((LL m.tags.length ws.length).getD k [])).2≠0 then(([],[]),(prob m (zq m ws) ((LL m.tags.length ws.length).getD k [])).2)else
   if 0<zaD (prob m (zq m ws) ((LL m.tags.length ws.length).getD k [])).1 (tagL m (zq m ws) (LL m.tags.length ws.length) k).1.1 then(((prob m (zq m ws) ((LL m.tags.length ws.length).getD k [])).1,(LL m.tags.length ws.length).getD k []),0)else tagL m (zq m ws) (LL m.tags.length ws.length) k:=fun k h=>by
   rw [tagL,if_neg (by rw [h];simp)]
  have s0:tagL m (zq m ws) (LL m.tags.length ws.length) 0=(([48],[]),0):=rfl
  have sl:=zjC m (zq m ws) (LL m.tags.length ws.length)
  have sm:(∀ t∈(tagL m (zq m ws) (LL m.tags.length ws.length) (LL m.tags.length ws.length).length).1.2,t<m.tags.length)∧(tagL m (zq m ws) (LL m.tags.length ws.length) (LL m.tags.length ws.length).length).1.2.length≤4:=by have:=zpO m (zq m ws);unfold tagF at this;rw [hcl]at this;exact⟨this.1,Nat.le_trans this.2 hw⟩
  have pl:=fun l=>zp1 m (zq m ws) l
  have hll:(LL m.tags.length ws.length).length≤81:=by rw [zgE];exact Nat.le_trans (Nat.pow_le_pow_left h3 _) (Nat.le_trans (Nat.pow_le_pow_right (by decide) hw) (by decide))
  generalize tagL m (zq m ws) (LL m.tags.length ws.length)=S at sE sF ss s0 sl sm
  generalize prob m (zq m ws)=Q at p4 ss pl
  generalize LL m.tags.length ws.length=L at p3 p4 sE sF ss sm hll
  clear hR hb hcl hl hf
  obtain⟨T,W,N,E⟩:=m
  unfold mdlV at p1 p4 ⊢
  dsimp only at p1 p3 p4 sF sm h3 ⊢
  simp (disch:=first|assumption|(push_cast<;>omega)|omega) only [go_sem,p1,p2,p3]
  refine AXs.loop mixed (hΓ) (zf) (fun i:Nat=>[(1,.fs (strs ws) ws.length),(2,.fp [.fs (strs T) T.length,.fs (strs W) W.length,.fs (zI N) N.length,.fs (zI E) E.length]),(7,.fs (nats .i64 (S i).1.2) (S i).1.2.length),(8,.str (S i).1.1),(9,.fs (zbf L) L.length),(10,.int .i64 i)]) (fun _=>⟨[],0⟩) (fun i=>i≤L.length∧(S i).2=0) (fun i=>L.length - i) 0 (by kernel_rfl) ⟨Nat.zero_le _,by rw [s0]⟩ (Sub.of0 [] rfl rfl ?_ ?_) ?_
  ·simp only [go_sem,s0]
   try exact .nil0
  ·simp only [go_sem]
  rintro i ⟨h1,h2⟩
  simp (disch:=first|assumption|(push_cast<;>omega)|omega) only [go_sem]
  refine AXc.introP (fun h4=>?_) (fun h4=>?_)
  ·have hi:i<L.length:=by omega
   have hrat:=zpW L i hi
   have pi:=p4 (L.getD i []) (by rw [List.getD_eq_getElem?_getD,List.getElem?_eq_getElem hi];exact List.getElem_mem _)
   have si:=ss i h2
   have se:=sE (i+1) (by omega)
   have l1:=pl (L.getD i [])
   have l2:=sl i
   generalize Q (L.getD i [])=q at pi si l1
   obtain⟨q1,q2⟩:=q
   dsimp only at pi si l1
   generalize L.getD i []=row at hrat pi si
   simp (disch:=first|assumption|(push_cast<;>omega)|omega) only [go_sem,hrat,pi]
   (repeat refine sdC ?_)
   refine AXc.introN (fun h5=>?_) (fun h5=>?_)
   ·rw [if_pos h5]at si
    rw [se (by rw [si];exact h5),si]
    simp (disch:=first|assumption|(push_cast<;>omega)|omega) only [go_sem]
   ·rw [if_neg (fun k=>k h5)]at si
    simp (disch:=first|assumption|(push_cast<;>omega)|omega) only [go_sem]
    refine AXc.introP (fun h6=>?_) (fun h6=>?_)
    ·rw [if_pos h6]at si
     simp (disch:=first|assumption|(push_cast<;>omega)|omega) only [go_sem,hrat]
     try (repeat refine sdC ?_)
     refine zk (i+1) ⟨by omega,by rw [si]⟩ (by omega) ?_
     rw [si]
     refine Sub.of0 [] rfl rfl ?_ ?_
     ·simp only [go_sem]
      try simp
     ·simp only [go_sem]
    ·rw [if_neg h6]at si
     simp (disch:=first|assumption|(push_cast<;>omega)|omega) only [go_sem]
     try (repeat refine sdC ?_)
     refine zk (i+1) ⟨by omega,by rw [si];exact h2⟩ (by omega) ?_
     rw [si]
     refine Sub.of0 [] rfl rfl ?_ ?_
     ·simp only [go_sem]
      try simp
     ·simp only [go_sem]
  ·obtain rfl:i=L.length:=by omega
   replace sF:=sF h2
   have l2:=sl L.length
   generalize S L.length=z at sF sm h2 l2
   obtain⟨⟨z1,z2⟩,z3⟩:=z
   dsimp only at sF sm h2 l2
   obtain⟨sm1,sm2⟩:=sm
   clear ss sE s0 sl pl p4 p3 p1 p2
   simp only [go_sem]
   refine AXa.go mixed (hΓ) (zf) (by kernel_rfl) ?_
   simp (disch:=first|assumption|(push_cast<;>omega)|omega) only [go_sem]
   refine AXc.introP (fun h5=>?_) (fun h5=>?_)
   ·rw [if_pos h5]at sF
    rw [sF]
    simp (disch:=first|assumption|(push_cast<;>omega)|omega) only [go_sem]
   rw [if_neg h5]at sF
   rw [sF]
   clear sF
   by_cases hz:z2=[]
   ·subst hz
    simp (disch:=first|assumption|(push_cast<;>omega)|omega) only [go_sem]
    refine AXs.rounds mixed hΓ zf [] (by kernel_rfl) ?_
    simp (disch:=first|assumption|(push_cast<;>omega)|omega) only [go_sem]
    refine AXa.go mixed (hΓ) (zf) (by kernel_rfl) ?_
    simp (disch:=first|assumption|(push_cast<;>omega)|omega) only [go_sem]
   ·obtain⟨nm,hnm⟩:∃ nm,nm=z2.map fun t=>T.getD t []:=⟨_,rfl⟩
    have hnl:nm.length=z2.length:=by rw [hnm,List.length_map]
    have hna:∀ i,i<z2.length→nm.take (i+1)=nm.take i++[T.getD (z2.getD i 0) []]:=fun i hi=>by
     have e:z2.getD i 0=z2[i]:=by rw [List.getD_eq_getElem?_getD,List.getElem?_eq_getElem hi];rfl
     rw [List.take_add_one,hnm,List.getElem?_map,List.getElem?_eq_getElem hi,e];rfl
    rw [←hnm]
    simp (disch:=first|assumption|(push_cast<;>omega)|omega) only [go_sem]
    refine AXs.loop mixed (hΓ) (zf) (fun i:Nat=>[(2,.fp [.fs (strs T) T.length,.fs (strs W) W.length,.fs (zI N) N.length,.fs (zI E) E.length]),(7,.fs (nats .i64 z2) z2.length),(8,.str z1),(13,slQ 0 (nm.take i)),(14,.int .i64 i)])
     (fun i=>⟨blkQ 0 (nm.take i) [],1⟩) (fun i=>i≤z2.length) (fun i=>z2.length - i) 0 (by kernel_rfl) (Nat.zero_le _) (Sub.of0 [] rfl rfl ?_ ?_) ?_
    ·simp only [go_sem,List.take_zero,zjM]
    ·simp only [go_sem,List.take_zero,zgC]
    intro i k1
    simp (disch:=first|assumption|(push_cast<;>omega)|omega) only [go_sem]
    refine AXc.introP (fun k2=>?_) (fun k2=>?_)
    ·have hi:i<z2.length:=by omega
     have ha:=hna i hi
     have hti:=sm1 _ (show z2.getD i 0∈z2 by rw [List.getD_eq_getElem?_getD,List.getElem?_eq_getElem hi];exact List.getElem_mem _)
     have hal:(nm.take i).length=i:=by simp;omega
     generalize nm.take i=acc at ha hal ⊢
     have nn:acc++[T.getD (z2.getD i 0) []]≠[]:=by simp
     have nl:(acc++[T.getD (z2.getD i 0) []]).length=acc.length+1:=by simp
     have tk:List.take acc.length acc=acc:=List.take_length
     by_cases ne:acc=[]
     ·subst ne
      rw [List.nil_append]at ha nn
      simp (disch:=first|assumption|(push_cast<;>omega)|omega) only [go_sem,zjM,zgC]
      (repeat refine sdC ?_)
      simp (disch:=first|assumption|(push_cast<;>omega)|omega) only [go_sem]
      refine zk (i+1) (by omega) (by omega) ?_
      rw [ha,zfV 0 nn,zd5 0 nn]
      refine Sub.of0 [(0,2)] rfl rfl ?_ ?_
      ·simp only [go_sem]
       simp
      ·simp only [go_sem]
       rfl
     ·simp (disch:=first|assumption|(push_cast<;>omega)|omega) only [go_sem,zfV 0 ne,zd5 0 ne]
      (repeat refine sdC ?_)
      simp (disch:=first|assumption|(push_cast<;>omega)|omega) only [go_sem]
      refine zk (i+1) (by omega) (by omega) ?_
      rw [ha,zfV 0 nn,zd5 0 nn,nl]
      refine Sub.of0 [(0,2)] rfl rfl ?_ ?_
      ·simp only [go_sem]
       simp
      ·simp only [go_sem,tk]
    ·obtain rfl:i=z2.length:=by omega
     rw [←hnl,List.take_length]
     by_cases ne:nm=[]
     ·exact absurd (List.eq_nil_of_length_eq_zero (by rw [←hnl,ne];rfl)) hz
     ·simp (disch:=first|assumption|(push_cast<;>omega)|omega) only [go_sem,zfV 0 ne,zd5 0 ne]
      refine AXa.go mixed (hΓ) (zf) (by kernel_rfl) ?_
      simp (disch:=first|assumption|(push_cast<;>omega)|omega) only [go_sem]
      exact zqx nm rfl
end Go.Proofs

namespace Go.Proofs
open Go.Ab Go.Cnt Go.Pl Go.Tg
noncomputable def zyV:List V→Option PR:=zB (fun p:Mdl×List Str=>[mdlV p.1,.fs (strs p.2) p.2.length]) (fun p=>Fit p.1∧p.1.tags.length≤3∧p.2.length≤4∧(∀ s∈p.2,s.length≤1000000000000000)∧∀ i j,(nx p.1 i j).length≤1000000000∧(em p.1 i j).length≤1000000000) fun p=>.ret (tagV (zeU p.1 p.2))
theorem zt5(m:Mdl)(ws:List Str)(hf:Fit m)(h3:m.tags.length≤3)(hw:ws.length≤4)(hs:∀ s∈ws,s.length≤1000000000000000)(hl:∀ i j,(nx m i j).length≤1000000000∧(em m i j).length≤1000000000):zyV [mdlV m,.fs (strs ws) ws.length]=some (.ret (tagV (zeU m ws))):=
 zo (pat:=fun p:Mdl×List Str=>[mdlV p.1,.fs (strs p.2) p.2.length]) zp9 (m,ws) ⟨hf,h3,hw,hs,hl⟩
theorem zt4:∀ args r,zyV args=some r→PCall Tryz.prog 19 args r:=zn fun p h=>rtag_ok p.1 p.2 h.1 h.2.1 h.2.2.1 h.2.2.2.1 h.2.2.2.2
theorem zvt(m:Mdl)(ws:List Str)(hw:ws.length≤4):(zeU m ws).1.1.length≤4:=by
 unfold zeU;split
 ·simp
 ·split
  ·simp
  ·split
   ·simp
   ·have:=(zpO m (zq m ws)).2;have e:(zq m ws).length=ws.length:=by simp [zq]
    rw [List.length_map];omega
theorem zuY(m:Mdl)(ws:List Str):tagR m ws=zeU m ws∨zic (tagR m ws).2 (zeU m ws).2 m ws=true:=by
 unfold tagR zeU;by_cases hb:(vmB m&&zbq ws)=false
 ·rw [if_pos hb,if_pos hb];exact .inl rfl
 rw [if_neg hb,if_neg hb];have hv:vmB m=true:=by
  cases h:vmB m with
  |true=>rfl
  |false=>exact absurd (by rw [h];rfl) hb
 have hcl:(zq m ws).length=ws.length:=by simp [zq]
 obtain⟨N,E,b,DN,DE,Df,H,hB⟩:=nums_ex hv (zq m ws) (fun c hc=>by unfold zq at hc;obtain⟨s,_,rfl⟩:=List.mem_map.1 hc;exact zhw _ _) ws hcl;have hB':zcV m ws=true→YY DN DE (zq m ws).length*Df<10 ^ 400:=fun h=>Nat.lt_of_le_of_lt (Nat.le_mul_of_pos_left _ (by decide)) (hB h);have lg:∀ e f:Int,(e=2∨f=2)→¬zcV m ws=true→zic e f m ws=true:=fun e f h k=>by
  unfold zic;rw [show zcV m ws=false by simpa using k];rcases h with h|h
  ·rw [decide_eq_true h];rfl
  ·rw [decide_eq_true h,Bool.or_true];rfl
 have o1:Oc _ (finT stL plL m z48 o49 (zq m ws)).2 _:=finL_oc H hB';have o2:=tagF_oc H hB';generalize tagF m (zq m ws)=y at o2 ⊢;have o1':Oc (zcV m ws=true) (finT stL plL m z48 o49 (zq m ws)).2 (RL (YY DN DE (zq m ws).length*Df) (finT stL plL m z48 o49 (zq m ws)).1 (fin m.tags.length (wN N E) b (zq m ws).length)):=o1;generalize finT stL plL m z48 o49 (zq m ws)=x at o1' ⊢;obtain⟨x1,x2⟩:=x;obtain⟨y1,y2⟩:=y;dsimp only at o1' o2 ⊢;rcases o1' with⟨e1,r1⟩|⟨e1,n1⟩
 ·rcases o2 with⟨e2,r2⟩|⟨e2,n2⟩
  ·rw [RL_uniq r1 r2,e1,e2];exact .inl rfl
  ·refine .inr (lg _ _ (.inr ?_) n2);rw [if_pos (by rw [e2];decide)];exact e2
 ·refine .inr (lg _ _ (.inl ?_) n1);rw [if_pos (by rw [e1];decide)];exact e1
set_option maxHeartbeats 8000000 in
set_option maxRecDepth 100000 in
theorem tags_law(m:Mdl)(ws:List Str)(hi:InM m ws):PCall Tryz.prog 5 [mdlV m,.fs (strs ws) ws.length] (.ret (.bool true)):=by
 have hΓ:=zg ztU (zg cTAwk_ok (zg zyH (zg zt4 (zg zuf (zg ztW zh)))));have e1:=ztV m ws hi;have hfit:=fitB_fit hi;have hsz:fitB m ws=true→m.tags.length≤3:=fun h=>by unfold fitB at h;simp only [Bool.and_eq_true,decide_eq_true_eq]at h;exact h.1.1
 refine PCall.walk (rs:=[.tmp 4]) [0,1,2,4,5,6,7,8,9,10,13] [25] mixed (hΓ) (zf) call5 Tryz.func5 rfl Tryz.ntmps5 rfl (by kernel_rfl) (by simp) (by simp [push_cast,zb1]) ?_;cases hfb:fitB m ws with
 |false=>
  rw [hfb]at e1;clear hfit hsz;obtain⟨T,W,N,E⟩:=m;unfold mdlV at e1 ⊢;dsimp only at e1 ⊢;simp (disch:=first|assumption|(push_cast<;>omega)|omega) only [go_sem,e1]
 |true=>
  rw [hfb]at e1;obtain⟨hf,h4,hl⟩:=hfit hfb;have e2:=zyI m ws ⟨hf,show ws.length≤1000 by omega,hl⟩;have e3:=zt5 m ws hf (hsz hfb) h4 hi.s hl;have hlen:=tagR_len m ws (by omega);have hlen2:=zvt m ws h4;have hs:=zuY m ws;have e4:=fun e f=>zug e f m ws hf (by omega);generalize tagR m ws=z at*;generalize zeU m ws=y at*;obtain⟨⟨z1,z2⟩,z3⟩:=z;obtain⟨⟨y1,y2⟩,y3⟩:=y;unfold tagV at e2 e3;dsimp only at e2 e3 hlen hlen2 hs;have e5:=ztX z1 y1 (by omega) (by omega);replace e4:=e4 z3 y3;have key:(zic z3 y3 m ws||(decide (z3=y3)&&(decide (z2=y2)&&decide (z1=y1))))=true:=by
   rcases hs with hs|hs
   ·cases hs;simp
   ·rw [hs];rfl
  generalize zic z3 y3 m ws=lb at e4 key;clear hs hi hl hf hfb hsz hfit;obtain⟨T,W,N,E⟩:=m;unfold mdlV at e1 e2 e3 e4 ⊢;dsimp only at e1 e2 e3 e4 ⊢;simp (disch:=first|assumption|(push_cast<;>omega)|omega) only [go_sem,e1,e2,e3,e4,e5];refine⟨fun h=>⟨h,fun k=>by rw [h,k];rfl⟩,fun h=>⟨h,fun k=>by rw [h, ←Bool.and_assoc];simpa using k⟩,?_⟩;rw [Bool.and_assoc];exact key
end Go.Proofs

namespace Go.Proofs
open Go.Ab Go.Cnt Go.Pl
theorem tags_in(p:MdlT)(w:List Str)(h:okM p)(hw:okS w):
 PCall Tryz.prog 5 [.agg (mdlR.enc p),.fs (strR.cells w) w.length] (.ret (.bool true)):=by
 rw [mdl_enc,zd9]
 exact tags_law _ w (inM_of h hw)
end Go.Proofs

namespace Go.Proofs.YthbimeikbkjnkaaGreatDoor
open Go.ChangeShapes Go.WideShapes Go.ChangeAt Go.WideMaps Go.WideElems Go.RowKit
theorem ownK:ownKnob Tryz.prog.godebug=none:=by kernel_rfl
theorem zqo:laidOutB Tryz.prog=true:=by kernel_rfl
abbrev zov:List (String×DataW Unit):=[("math/bits.deBruijn32tab",Rows.laid_math_bits_deBruijn32tab),("math/bits.deBruijn64tab",Rows.laid_math_bits_deBruijn64tab),("internal/strconv.uint64pow10",Rows.laid_internal_strconv_uint64pow10)]
theorem door_met(os:Os):laidMetH Tryz.prog zov ((World.doorLaid Tryz.prog 400 os).forCall (fun _ _=>0) ⟨#[],#[.agg #[.slice none 0 0,.slice none 0 0,.slice none 0 0,.slice none 0 0],.slice none 0 0],[]⟩).memory:=
 laidMetH_of_parts3 (fuel:=8) (laidMet_of_run' 8 (by kernel_rfl) (by kernel_rfl)) (by kernel_rfl) (by kernel_rfl)
def tens:List Int:=(List.range 20).map fun i=>((10 ^ i:Nat):Int)
theorem zrG:(Rows.laid_internal_strconv_uint64pow10:DataW Unit)=Lib.tabData .u64 tens:=by kernel_rfl
theorem gTab:Tryz.prog.globalNamed "internal/strconv.uint64pow10" =some 1:=by kernel_rfl
theorem gTabT:(Tryz.prog.globals[1]?).map (·.type)=some 262:=by kernel_rfl
theorem underA:Tryz.prog.underlying 262=some (.array 20 185):=by kernel_rfl
theorem underU:Tryz.prog.underlying 185=some (.int .u64):=by kernel_rfl
theorem cellsU:Tryz.prog.cellsOf 185=1:=by kernel_rfl
theorem cellsA:Tryz.prog.cellsOf 262=20:=by kernel_rfl
theorem tab_of {W:World}(h:laidMetH Tryz.prog zov W):∃ t fr,W.heap[1]? =some (.cells (tens.map fun z=>Value.int .u64 z).toArray t fr):=by
 rw [MakeChecks.laidMetH_plain _ _ _ (by kernel_rfl)]at h;have h2:=h.tail.tail;rw [zrG]at h2;have h3:W.var? Tryz.prog "internal/strconv.uint64pow10" =some (tens.map fun z=>Value.int .u64 z).toArray:=Lib.tabIs_of_head gTab gTabT underA underU cellsU cellsA h2;unfold World.var? at h3;rw [gTab]at h3;simp only [Option.bind_some]at h3;cases hb:W.heap[1]? with
 |none=>rw [hb]at h3;cases h3
 |some o=>
  rw [hb]at h3;cases o<;>first|(cases h3;exact⟨_,_,rfl⟩)|cases h3
theorem gok_of {W:World}(h:laidMetH Tryz.prog zov W):Go.Ab.GOK (Go.Ab.gW W):=by
 obtain⟨t,fr,hb⟩:=tab_of h;have hphi:=Go.Ab.gW_of hb;intro k cs e;have e':(if k=1 then some Go.Ab.pow10V else none)=some cs:=e;split at e';rotate_left;·cases e'
 rename_i hk;cases e';subst hk;have hsz:(tens.map fun z=>Value.int .u64 z).toArray.size=Go.Ab.pow10V.length:=by kernel_rfl
 refine⟨Go.Ab.VRel.mk_fp hphi ?_,_,hphi,hsz⟩;intro i x hx;have hi:i<20:=(List.getElem?_eq_some_iff.1 hx).1;refine⟨.int .u64 ((10 ^ i:Nat):Int),?_,?_⟩
 ·show (tens.map fun z=>Value.int .u64 z).toArray[0+i]? =_;rw [Nat.zero_add];simp [tens,hi]
 ·have:Go.Ab.pow10V[i]? =some (.int .u64 ((10 ^ i:Nat):Int)):=by simp [Go.Ab.pow10V,hi]
  rw [this]at hx;cases hx;exact .int _ _
theorem call_of {W:World}(h:laidMetH Tryz.prog zov W){args:Array Value}{vs:List Go.Ab.V}(hc:Go.Ab.PCall Tryz.prog 5 vs (.ret (.bool true)))(hs:args.size=vs.length)(hp:Go.Ab.PW (Go.Ab.gW W) vs (fun i=>args[i]?)):
 Calls Tryz.prog 5 args W fun e W'=>e=.returned (.bool true)∧Below W.heap.size W W':=by
 have hc':=hc (Go.Ab.gW W) W args (gok_of h) Go.Ab.gW_frz hs hp
 refine(zd6 (Go.Ab.canB_ok (by kernel_rfl)) hc').mono fun e W' q=>?_
 obtain⟨phi',vc,_,hbel,rfl,hv⟩:=q
 rw [hv.inv_bool]
 exact⟨rfl,hbel.os,hbel.tape.eq,hbel.output,hbel.size,hbel.block⟩
theorem zv9:Tryz.f5.params.toList=[25,22]:=by kernel_rfl
theorem stand22:Tryz.pinned.checked.prog.wantsStandIn (22:Nat)=false:=by kernel_rfl
theorem stand25:Tryz.pinned.checked.prog.wantsStandIn (25:Nat)=false:=by kernel_rfl
set_option maxRecDepth 100000 in
theorem lifted(os:Os)(started:os.Started)(H:Type)(enc:TypeId×Value→H):
 ReturnsInHanded {} Tryz.checked os 5 .any (fun w args=>(Rows.taggerTagsSpec.pre enc Tryz.prog Tryz.f5 [] false w args∧laidMetH Tryz.prog zov w)∧sizedMet enc Tryz.prog Tryz.f5 (OpenSpec.ofChange Rows.taggerTagsSpec) false w args)
  (Rows.taggerTagsSpec.post enc Tryz.prog Tryz.f5 false true false false):=by
 refine returnsInHanded_of_change_and (C:=Tryz.checked) (X:=fun w _=>laidMetH Tryz.prog zov w) (fun _ _ _ hh h=>h.of_heap hh) ownK started (by kernel_rfl) Tryz.func5
  (ChangeSpec.witness_shaped (enc:=enc) (C:=Tryz.checked) (os:=os) (X:=fun w _=>laidMetH Tryz.prog zov w) false (World.doorLaid Tryz.prog 400 os) #[.agg #[.slice none 0 0,.slice none 0 0,.slice none 0 0,.slice none 0 0],.slice none 0 0] 8 rfl (World.shaped_of_RefB (by kernel_rfl) (by kernel_rfl)) (by kernel_rfl) (by kernel_rfl) (by kernel_rfl) (door_met os)) ?_
 intro W base args ds gs before hval0 hW _ hwt hL _
 have hW':=hW
 obtain⟨p,q,hA0,hV,rfl,hfz,hnd⟩:=hW
 have hA:DataW.TrodAll enc Tryz.prog W 0 (fun _=>true) true Tryz.f5.params.toList args.toList ds p:=hA0
 rw [zv9]at hA
 obtain⟨v0,v1,d0,d1,p0,p1,rfl,rfl,rfl,h0,h1⟩:=trodAll_two hA
 obtain⟨rfl,rfl⟩:=trodVars_none hV
 have hlt:=DataW.TrodAll.lt hA
 have hwt':∀ n∈DataW.weightsEach Tryz.prog [25,22] [d0,d1],n≤reachBytes:=fun n hn=>by have:=List.all_eq_true.1 hwt n (by rw [zv9,show Rows.taggerTagsSpec.plain.varTypes Tryz.checked.prog=[]from rfl,List.append_nil,List.append_nil];exact hn);simpa using this
 simp only [Go.Ab.weightsEach_cons]at hwt'
 have w0:∀ n∈d0.weights Tryz.prog 25,n≤reachBytes:=fun n hn=>hwt' n (List.mem_append_left _ hn)
 have w1:∀ n∈d1.weights Tryz.prog 22,n≤reachBytes:=fun n hn=>hwt' n (List.mem_append_right _ (List.mem_append_left _ hn))
 have hv0:Value.okWide Tryz.prog W .any base 25 v0:=hval0 0 25 v0 rfl rfl
 have c0:∃ cs,v0=.agg cs:=by obtain⟨cs,e,_⟩:=okWide_struct Tryz.underlying25 hv0;exact⟨cs,e⟩
 obtain⟨a0,o0,r0⟩:=Go.Proofs.dMdl.argS h0 c0 w0
 have hv1:Value.okWide Tryz.prog W .any base 22 v1:=hval0 1 22 v1 rfl rfl
 have c1:v1.cells=#[v1]:=by obtain⟨_,_,_,e⟩:=okWide_slice Tryz.underlying22 hv1;rw [e];rfl
 obtain⟨a1,o1,r1⟩:=Go.Proofs.dStrs.arg1 h1 c1 w1
 replace r1:=r1 _ rfl
 refine(call_of hL (Go.Proofs.tags_in a0 a1 o0 o1) rfl (fun i x hx=>by
  match i with
  |0=>cases hx;exact⟨v0,rfl,r0⟩
  |1=>cases hx;exact⟨v1,rfl,r1⟩
  |i+2=>simp at hx)).mono fun e W' ⟨he,bel⟩=>?_
 subst he
 have k0:=Below.trod zqo (by kernel_rfl) (of_decide_eq_true (by kernel_rfl)) h0 bel (fun x hx=>hlt x (List.mem_append_left _ hx))
 have k1:=Below.trod zqo (by kernel_rfl) (of_decide_eq_true (by kernel_rfl)) h1 bel (fun x hx=>hlt x (List.mem_append_right _ hx))
 exact⟨_,rfl,_,_,_,[],_,[],hW',trodAll_mk1 (shut_bool Tryz.underlying4 _),trodAll_mk2 k0 k1,rfl,bel.frame _,fun h=>by cases h⟩
theorem said:Rows.TaggerTagsSaid:=
 OpenClaim.holds_of_wide 5 Tryz.f5 rfl rfl rfl rfl rfl rfl rfl ⟨rfl,rfl,rfl,rfl,rfl⟩ rfl rfl rfl rfl rfl (by kernel_rfl) Tryz.func5 (by kernel_rfl)
  (of_decide_eq_true (by kernel_rfl)) (by unfold Func.isWrapper;first|(rw [if_pos (by decide+kernel)];kernel_rfl)|(rw [if_neg (by decide+kernel)];exact⟨rfl,rfl⟩))
  (fun os started H enc _=>lifted os started H enc)
theorem tags_holds:Rows.TaggerTagsCardSaid:=
 Claim7.holds_tied_plain_at .later [] [.data,.data,.data] true (true, "d3bf08ebd9ea1bcaa5cb35fb73af600287fdc0001c94dc43560aeefca0fab896") true
  said (fun _ h=>by cases h) (by kernel_rfl) (fun _ h=>by cases h) taggerTags_row_tie rfl ⟨rfl,rfl⟩ (by kernel_rfl) rfl
  (fun f fn hf hfn=>by
   obtain rfl:f=5:=Option.some.inj ((show Tryz.prog.funcNamed "abugida/abugidalaw36.TaggerTags" =some 5 by kernel_rfl).symm.trans hf) |>.symm
   obtain rfl:fn=Tryz.f5:=(Option.some.inj (Tryz.func5.symm.trans hfn)).symm;exact⟨by kernel_rfl,fun j t ht=>by
    rw [Tryz.params5]at ht;match j with
    |0=>exact(Option.some.inj ht:(25:Nat)=t)▸stand25
    |1=>exact(Option.some.inj ht:(22:Nat)=t)▸stand22
    |j+2=>simp at ht⟩)
  (by kernel_rfl)
#print axioms tags_holds
end Go.Proofs.YthbimeikbkjnkaaGreatDoor
