/- One digit of a long division. -/
import Derived.Test.YthbimeikbkjnkaaGreatDoorPlDiv2
import Derived.Test.YthbimeikbkjnkaaGreatDoorAbWalk2
set_option linter.all false
namespace Go.Proofs
open Go.Ab Go.Pl
theorem zfs {l:List Nat}{o n i:Nat}(hi:i≤n):(seg l o n).getD i 0=l.getD (o+i) 0:=by unfold Go.Pl.seg;rw [getD_take _ _ _ _ (by omega),getD_drop]
theorem setN' {k:IntKind}{l:List Nat}{n d:Nat}{v:Int}(h:v=(d:Nat)):(nats k l).set n (.int k v)=nats k (l.set n d):=by rw [h,zit]
set_option maxHeartbeats 4000000 in
set_option maxRecDepth 100000 in
theorem zvg(l v:List Nat)(o:Nat)(hd:DigOK (seg l o v.length) v)(ho:o+v.length+1≤l.length)(ol:okL l)(hl:l.length≤1000000):
 NCall Tryz.prog 208 [.sl 0 o (v.length+1) 1 none,.fs (nats .u64 v) v.length] [.cells (nats .u64 l)] [0] (.int .u64 (valL (seg l o v.length) / valL v:Nat))
  ⟨[(0,.cells (nats .u64 (mid l o (v.length+1) (digs (v.length+1) (valL (seg l o v.length) % valL v)))))],1⟩:=by
 have hv0:=hd.pos
 have ht:=hd.top
 have ov:=hd.ov
 have g1:=zfs (l:=l) (o:=o) (i:=v.length) (Nat.le_refl _)
 have g2:=zfs (l:=l) (o:=o) (n:=v.length) (i:=v.length - 1) (by omega)
 have b1:=getD_lt ol (o+v.length)
 have b2:=getD_lt ol (o+(v.length - 1))
 have b3:=getD_lt ov (v.length - 1)
 refine NCall.walkWA (rs:=[.tmp 4]) [0,1,4,5,6,7,8,9,10,11,12,13,14,15,70,85,87,88,89,94,125,128,129,130,140] [] 1 [0] mixed (zh) (zf) call208 Tryz.func208 rfl Tryz.ntmps208 rfl (by kernel_rfl) (by simp) (by simp) (by simp) (by simp) ?_
 simp only [go_sem]
 refine AXa.cutF 5 (fun p:Nat×Nat=>zfc (seg l o v.length) v p.1 p.2∧p.1<1000000000∧(p.1 - 1)*valL v≤valL (seg l o v.length)) (fun p=>[(0,.sl 0 o (v.length+1) 1 none),(1,.fs (nats .u64 v) v.length),(5,.int .i64 v.length),(7,.int .u64 p.1)]) (fun _=>⟨[(0,.cells (nats .u64 l))],1⟩) rfl mixed zh zf (by kernel_rfl) ?_ ?_
 ·simp (disch:=first|assumption|(push_cast<;>omega)|omega) only [go_sem]
  refine⟨⟨by omega,by omega⟩,by omega,⟨by omega,by omega⟩,by omega,AXk.intro (by kernel_rfl) ?_⟩
  have hs:=zlm hd
  rw [g1,g2]at hs
  generalize hU:l.getD (o+v.length) 0=U at*
  generalize hU1:l.getD (o+(v.length - 1)) 0=U1 at*
  have hq0:(U*1000000000+U1) / v.getD (v.length - 1) 0≤U*1000000000+U1:=Nat.div_le_self ..
  have hr0:(U*1000000000+U1) % v.getD (v.length - 1) 0<v.getD (v.length - 1) 0:=Nat.mod_lt _ ht
  have hdv:((U:Int)*1000000000+(U1:Int)) / ((v.getD (v.length - 1) 0:Nat):Int)=(((U*1000000000+U1) / v.getD (v.length - 1) 0:Nat):Int):=by rw [Int.natCast_ediv,Int.natCast_add,Int.natCast_mul];rfl
  have hmd:((U:Int)*1000000000+(U1:Int)) % ((v.getD (v.length - 1) 0:Nat):Int)=(((U*1000000000+U1) % v.getD (v.length - 1) 0:Nat):Int):=by rw [Int.natCast_emod,Int.natCast_add,Int.natCast_mul];rfl
  generalize (U*1000000000+U1) / v.getD (v.length - 1) 0=Q0 at*
  generalize (U*1000000000+U1) % v.getD (v.length - 1) 0=R0 at*
  simp (disch:=first|assumption|(push_cast<;>omega)|omega) only [go_sem,hdv,hmd]
  refine⟨⟨by omega,by omega⟩,by omega,by omega,⟨by omega,by omega⟩,by omega,by omega,?_⟩
  refine AXs.loop mixed (zh) (zf) (fun p:Nat×Nat=>[(0,.sl 0 o (v.length+1) 1 none),(1,.fs (nats .u64 v) v.length),(5,.int .i64 v.length),(7,.int .u64 p.1),(8,.int .u64 p.2)]) (fun _=>⟨[(0,.cells (nats .u64 l))],1⟩) (fun p=>zfc (seg l o v.length) v p.1 p.2) (fun p=>p.1) (Q0,R0) (by kernel_rfl) hs (Sub.of [] rfl ?_ ?_ (by decide) (fun b hb hw=>absurd (Nat.lt_one_iff.1 hb) (by simpa using hw))) ?_
  ·simp only [go_sem]
  ·simp only [go_sem]
  rintro⟨q,r⟩ hi
  dsimp only at hi ⊢
  have hi1:=hi.1
  rw [g1,g2]at hi1
  have hq1:q*1≤q*v.getD (v.length - 1) 0:=Nat.mul_le_mul_left _ ht
  by_cases c1:(1000000000:Int)≤q
  ·have d1:decide ((1000000000:Int)≤q)=true:=by simpa using c1
   have hnx:=zrj hd hi (by omega)
   have hqp:0<q:=by omega
   simp (disch:=first|assumption|(push_cast<;>omega)|omega) only [go_sem,d1]
   refine AXk.intro (by kernel_rfl) ?_
   have hbnd:q*v.getD (v.length - 1) 0+r<1000000000000000000:=by omega
   generalize q*v.getD (v.length - 1) 0=qv at hi1 hbnd hq1
   simp (disch:=first|assumption|(push_cast<;>omega)|omega) only [go_sem]
   refine⟨⟨by omega,by omega⟩,by omega,?_⟩
   have hcb:(decide (1000000000≤(r:Int)+(v.getD (v.length - 1) 0:Nat))&&decide ((q:Int) - 1<1000000000))=decide (1000000000≤r+v.getD (v.length - 1) 0∧q - 1<1000000000):=by rw [Bool.eq_iff_iff];simp only [Bool.and_eq_true,decide_eq_true_eq];omega
   rw [hcb]
   refine AXc.introP (fun h6=>?_) (fun h6=>?_)
   ·simp (disch:=first|assumption|(push_cast<;>omega)|omega) only [go_sem]
    refine zdp (q - 1,r+v.getD (v.length - 1) 0) ⟨hnx,h6.2,zcG hd hnx h6.2 (.inr (.inl h6.1))⟩ (Sub.of [] rfl ?_ ?_ (by decide) (fun b hb hw=>absurd (Nat.lt_one_iff.1 hb) (by simpa using hw)))
    ·simp only [go_sem]
     simp only [V.int.injEq,true_and];omega
    ·simp only [go_sem]
   ·simp (disch:=first|assumption|(push_cast<;>omega)|omega) only [go_sem]
    refine zo (q - 1,r+v.getD (v.length - 1) 0) hnx (by dsimp only;omega) (Sub.of [] rfl ?_ ?_ (by decide) (fun b hb hw=>absurd (Nat.lt_one_iff.1 hb) (by simpa using hw)))
    ·simp only [go_sem]
     refine⟨?_,?_⟩<;>(simp only [V.int.injEq,true_and];omega)
    ·simp only [go_sem]
  ·have d1:decide ((1000000000:Int)≤q)=false:=by simpa using c1
   by_cases c2:1<(v.length:Int)
   ·by_cases c3:(r:Int)<1000000000
    ·have d2:decide (1<(v.length:Int))=true:=by simpa using c2
     have d3:decide ((r:Int)<1000000000)=true:=by simpa using c3
     have w1:IntKind.i64.wrap ((v.length:Int) - 2)=((v.length - 2:Nat):Int):=by rw [wrap_i64]<;>omega
     have b4:=getD_lt ov (v.length - 2)
     have b5:=getD_lt ol (o+(v.length - 2))
     have b6:q*v.getD (v.length - 2) 0≤999999999*999999999:=Nat.mul_le_mul (by omega) (by omega)
     have hm:(q:Int)*((v.getD (v.length - 2) 0:Nat):Int)=((q*v.getD (v.length - 2) 0:Nat):Int):=(Int.natCast_mul ..).symm
     obtain⟨w,hw⟩:∃ w,w=q*v.getD (v.length - 2) 0:=⟨_,rfl⟩
     rw [←hw]at hm b6
     obtain⟨R9,hR9⟩:∃ R9,R9=r*1000000000:=⟨_,rfl⟩
     have hR:(r:Int)*1000000000=(R9:Int):=by omega
     obtain⟨Z,hZ⟩:∃ Z,Z=R9+l.getD (o+(v.length - 2)) 0:=⟨_,rfl⟩
     have hZ':(R9:Int)+((l.getD (o+(v.length - 2)) 0:Nat):Int)=(Z:Int):=by omega
     simp (disch:=first|assumption|(push_cast<;>omega)|omega) only [go_sem,d1,d2,d3,w1,hm,hR,hZ']
     refine⟨⟨by omega,by omega⟩,by omega,⟨by omega,by omega⟩,by omega,AXk.intro (by kernel_rfl) ?_⟩
     refine AXc.introP (fun h4=>?_) (fun h4=>?_)
     ·have hnx:=znd hd hi (by omega) (by rw [zfs (by omega), ←hw, ←hR9, ←hZ];omega)
      have hqp:0<q:=by
       rcases Nat.eq_zero_or_pos q with h0|h0
       ·rw [h0,Nat.zero_mul]at hw;omega
       ·exact h0
      clear hw hR9 hZ hZ' hR hm
      have hbnd:q*v.getD (v.length - 1) 0+r<1000000000000000000:=by omega
      generalize q*v.getD (v.length - 1) 0=qv at hi1 hbnd hq1
      simp (disch:=first|assumption|(push_cast<;>omega)|omega) only [go_sem]
      refine⟨⟨by omega,by omega⟩,by omega,?_⟩
      have hcb:(decide (1000000000≤(r:Int)+(v.getD (v.length - 1) 0:Nat))&&decide ((q:Int) - 1<1000000000))=decide (1000000000≤r+v.getD (v.length - 1) 0∧q - 1<1000000000):=by rw [Bool.eq_iff_iff];simp only [Bool.and_eq_true,decide_eq_true_eq];omega
      rw [hcb]
      refine AXc.introP (fun h6=>?_) (fun h6=>?_)
      ·simp (disch:=first|assumption|(push_cast<;>omega)|omega) only [go_sem]
       refine zdp (q - 1,r+v.getD (v.length - 1) 0) ⟨hnx,h6.2,zcG hd hnx h6.2 (.inr (.inl h6.1))⟩ (Sub.of [] rfl ?_ ?_ (by decide) (fun b hb hw=>absurd (Nat.lt_one_iff.1 hb) (by simpa using hw)))
       ·simp only [go_sem]
        simp only [V.int.injEq,true_and];omega
       ·simp only [go_sem]
      ·simp (disch:=first|assumption|(push_cast<;>omega)|omega) only [go_sem]
       refine zo (q - 1,r+v.getD (v.length - 1) 0) hnx (by dsimp only;omega) (Sub.of [] rfl ?_ ?_ (by decide) (fun b hb hw=>absurd (Nat.lt_one_iff.1 hb) (by simpa using hw)))
       ·simp only [go_sem]
        refine⟨?_,?_⟩<;>(simp only [V.int.injEq,true_and];omega)
       ·simp only [go_sem]
     ·simp (disch:=first|assumption|(push_cast<;>omega)|omega) only [go_sem]
      refine zdp (q,r) ⟨hi,by dsimp only;omega,zcG hd hi (by omega) (.inr (.inr (by rw [zfs (by omega), ←hw, ←hR9, ←hZ];omega)))⟩ (Sub.of [] rfl ?_ ?_ (by decide) (fun b hb hw=>absurd (Nat.lt_one_iff.1 hb) (by simpa using hw)))
      ·simp only [go_sem]
      ·simp only [go_sem]
    ·have d2:decide (1<(v.length:Int))=true:=by simpa using c2
     have d3:decide ((r:Int)<1000000000)=false:=by simpa using c3
     simp (disch:=first|assumption|(push_cast<;>omega)|omega) only [go_sem,d1,d2,d3]
     refine AXk.intro (by kernel_rfl) ?_
     simp (disch:=first|assumption|(push_cast<;>omega)|omega) only [go_sem]
     refine zdp (q,r) ⟨hi,by dsimp only;omega,zcG hd hi (by omega) (.inr (.inl (by omega)))⟩ (Sub.of [] rfl ?_ ?_ (by decide) (fun b hb hw=>absurd (Nat.lt_one_iff.1 hb) (by simpa using hw)))
     ·simp only [go_sem]
     ·simp only [go_sem]
   ·have d2:decide (1<(v.length:Int))=false:=by simpa using c2
    simp (disch:=first|assumption|(push_cast<;>omega)|omega) only [go_sem,d1,d2]
    refine AXk.intro (by kernel_rfl) ?_
    simp (disch:=first|assumption|(push_cast<;>omega)|omega) only [go_sem]
    refine zdp (q,r) ⟨hi,by dsimp only;omega,zcG hd hi (by omega) (.inl (by omega))⟩ (Sub.of [] rfl ?_ ?_ (by decide) (fun b hb hw=>absurd (Nat.lt_one_iff.1 hb) (by simpa using hw)))
    ·simp only [go_sem]
    ·simp only [go_sem]
 ·rintro⟨q,r⟩ ⟨h1,h2,h3⟩
  dsimp only at h1 h2 h3 ⊢
  have hQ:=h1.2
  have hsl:(seg l o v.length).length=v.length+1:=hd.len
  have hms:mid l o (v.length+1) (seg l o v.length)=l:=mid_seg (by omega)
  have hst:=zsx q (seg l o v.length) v hd.ou
  have hln:o+(v.length+1)≤l.length:=by omega
  clear h1 g1 g2 b1 b2 b3
  refine AXa.go mixed (zh) (zf) (by kernel_rfl) ?_
  simp (disch:=first|assumption|(push_cast<;>omega)|omega) only [go_sem]
  refine AXs.loop mixed (zh) (zf) (fun p:Nat×List Nat×Nat×Nat=>[(0,.sl 0 o (v.length+1) 1 none),(1,.fs (nats .u64 v) v.length),(5,.int .i64 v.length),(7,.int .u64 q),(9,.int .u64 p.2.2.1),(10,.int .u64 p.2.2.2),(87,.int .i64 (v.length+1:Int)),(88,.int .i64 p.1)])
   (fun p=>⟨[(0,.cells (nats .u64 (mid l o (v.length+1) p.2.1)))],1⟩) (fun p=>p.1≤v.length+1∧zhr q (seg l o v.length) v p.1 p.2.1 p.2.2.1 p.2.2.2∧(p.1=v.length+1→p.2.2.2=0)) (fun p=>v.length+1 - p.1) (0,seg l o v.length,0,0) (by kernel_rfl) ⟨Nat.zero_le _,hst,fun h=>rfl⟩ (Sub.of [] rfl ?_ ?_ (by decide) (fun b hb hw=>absurd (Nat.lt_one_iff.1 hb) (by simpa using hw))) ?_
  ·simp only [go_sem]
  ·simp only [go_sem,hms]
  rintro⟨i,s,b,c⟩ ⟨hi,hv,hc0⟩
  dsimp only at hi hv hc0 ⊢
  have ls:=hv.1
  have os:=hv.2.1
  have hbc:=hv.2.2.2.2
  rw [hsl]at ls
  simp (disch:=first|assumption|(push_cast<;>omega)|omega) only [go_sem]
  refine AXc.introP (fun h4=>?_) (fun h4=>?_)
  ·have hin:i<v.length+1:=by omega
   have hstep:=sub_step (i:=i) h2 ov (by rw [hsl];exact hin) hv
   have hcar:i=v.length→subP q v i c / 1000000000=0:=fun e=>by subst e;exact zsy hv
   have hpl:=zsz (i:=i) h2 ov hbc.2
   have hgl:=getD_lt os i
   have hmg:=zol ls hln hin
   have hset:∀ d,(mid l o (v.length+1) s).set (o+i) d=mid l o (v.length+1) (s.set i d):=fun d=>zt5 ls hln hin
   have hml:(mid l o (v.length+1) s).length=l.length:=zmJ ls hln
   have hm:(q:Int)*((v.getD i 0:Nat):Int)=((q*v.getD i 0:Nat):Int):=(Int.natCast_mul ..).symm
   have hp1:subP q v i c=c+q*v.getD i 0:=rfl
   have hvz:¬(i:Int)<v.length→q*v.getD i 0=0:=fun h=>by rw [zbd v _ _ (by omega)];simp
   obtain⟨w,hw⟩:∃ w,w=q*v.getD i 0:=⟨_,rfl⟩
   rw [←hw]at hm hp1 hvz
   generalize subP q v i c=p at*
   have hd1:subD s i p b=s.getD i 0+1000000000 - p % 1000000000 - b:=rfl
   generalize subD s i p b=d at*
   by_cases c1:(i:Int)<v.length
   ·simp (disch:=first|assumption|(push_cast<;>omega)|omega) only [go_sem,c1,hm,hmg]
    repeat refine And.intro (by first|omega|exact⟨by omega,by omega⟩|rfl) ?_
    refine zo (i+1,s.set i (d % 1000000000),1 - d / 1000000000,p / 1000000000) ⟨by dsimp only;omega,hstep,fun e=>hcar (by dsimp only at e;omega)⟩ (by dsimp only;omega) (Sub.of [] rfl ?_ ?_ (by decide) (fun b hb hw=>absurd (Nat.lt_one_iff.1 hb) (by simpa using hw)))
    ·simp only [go_sem]
     simp only [V.int.injEq,true_and]
     omega
    ·simp only [go_sem]
     rw [setN' (d:=d % 1000000000) (by omega),hset]
   ·have hw0:=hvz c1
    simp (disch:=first|assumption|(push_cast<;>omega)|omega) only [go_sem,c1,hmg]
    repeat refine And.intro (by first|omega|exact⟨by omega,by omega⟩|rfl) ?_
    refine zo (i+1,s.set i (d % 1000000000),1 - d / 1000000000,p / 1000000000) ⟨by dsimp only;omega,hstep,fun e=>hcar (by dsimp only at e;omega)⟩ (by dsimp only;omega) (Sub.of [] rfl ?_ ?_ (by decide) (fun b hb hw=>absurd (Nat.lt_one_iff.1 hb) (by simpa using hw)))
    ·simp only [go_sem]
     simp only [V.int.injEq,true_and]
     omega
    ·simp only [go_sem]
     rw [setN' (d:=d % 1000000000) (by omega),hset]
  ·have hie:i=v.length+1:=by omega
   subst hie
   have hcz:=hc0 rfl
   subst hcz
   rw [←hsl]at hv
   have hse:=sub_end h2 hd hv rfl
   simp (disch:=first|assumption|(push_cast<;>omega)|omega) only [go_sem]
   refine AXa.go mixed (zh) (zf) (by kernel_rfl) ?_
   simp (disch:=first|assumption|(push_cast<;>omega)|omega) only [go_sem]
   refine AXc.introP (fun h5=>?_) (fun h5=>?_)
   ·have hb0:b=0:=by omega
    subst hb0
    rw [Nat.mul_zero,Nat.add_zero]at hse
    obtain⟨e1,e2⟩:=dig_done hd hQ hse
    have hs':s=digs (v.length+1) (valL (seg l o v.length) % valL v):=by have:=ze0 os;rw [ls,e2]at this;exact this
    rw [←hs', ←e1]
    simp (disch:=first|assumption|(push_cast<;>omega)|omega) only [go_sem]
    exact⟨[(4,.int .u64 q)],(Sub.of [] rfl (by simp only [go_sem]) (by simp only [go_sem]) (by decide) (fun b hb hw=>absurd (Nat.lt_one_iff.1 hb) (by simpa using hw))),by simp only [go_sem]⟩
   ·have hb1:b=1:=by omega
    subst hb1
    rw [Nat.mul_one]at hse
    obtain⟨e1,e2⟩:=dig_over hd os (by rw [ls,hsl]) hQ h3 hse
    have hq1:valL (seg l o v.length) / valL v=q - 1:=by rw [e1,Nat.add_sub_cancel]
    have hq0:0<q:=by rw [e1];exact Nat.succ_pos _
    have hmodlt:valL (seg l o v.length) % valL v<1000000000 ^ s.length:=by have h6:=Nat.mod_lt (valL (seg l o v.length)) hd.vpos;have h7:=zS ov;rw [ls,Nat.pow_succ];generalize (1000000000:Nat) ^ v.length=pw at*;omega
    have hback:∀ s' c',ze4 s v s.length s' c'→s'=digs (v.length+1) (valL (seg l o v.length) % valL v):=fun s' c' hb=>by have h6:=back_end (by rw [ls];omega) hb hmodlt (by rw [e2,hsl,ls]);have h7:=ze0 hb.2.1;rw [hb.1,ls,h6]at h7;exact h7
    rw [hq1]
    generalize valL (seg l o v.length) % valL v=M at*
    clear e1 e2 hse hmodlt hq1 hQ h3 hv hbc hst
    have hst:=zrX s v os
    simp (disch:=first|assumption|(push_cast<;>omega)|omega) only [go_sem]
    refine AXs.loop mixed (zh) (zf) (fun p:Nat×List Nat×Nat=>[(0,.sl 0 o (v.length+1) 1 none),(1,.fs (nats .u64 v) v.length),(5,.int .i64 v.length),(7,.int .u64 q),(10,.int .u64 p.2.2),(128,.int .i64 (v.length+1:Int)),(129,.int .i64 p.1)])
     (fun p=>⟨[(0,.cells (nats .u64 (mid l o (v.length+1) p.2.1)))],1⟩) (fun p=>p.1≤v.length+1∧ze4 s v p.1 p.2.1 p.2.2) (fun p=>v.length+1 - p.1) (0,s,0) (by kernel_rfl) ⟨Nat.zero_le _,hst⟩ (Sub.of [] rfl ?_ ?_ (by decide) (fun b hb hw=>absurd (Nat.lt_one_iff.1 hb) (by simpa using hw))) ?_
    ·simp only [go_sem]
    ·simp only [go_sem]
    rintro⟨i,s',c⟩ ⟨hi,hv⟩
    dsimp only at hi hv ⊢
    have ls':=hv.1
    have os':=hv.2.1
    have hc1:=hv.2.2.2.2
    rw [ls]at ls'
    simp (disch:=first|assumption|(push_cast<;>omega)|omega) only [go_sem]
    refine AXc.introP (fun h4=>?_) (fun h4=>?_)
    ·have hin:i<v.length+1:=by omega
     have hstep:=zwL (i:=i) ov (by rw [ls];exact hin) hv
     have hgl:=getD_lt os' i
     have hgv:=getD_lt ov i
     have hmg:=zol ls' hln hin
     have hset:∀ d,(mid l o (v.length+1) s').set (o+i) d=mid l o (v.length+1) (s'.set i d):=fun d=>zt5 ls' hln hin
     have hml:(mid l o (v.length+1) s').length=l.length:=zmJ ls' hln
     have hvz:¬(i:Int)<v.length→v.getD i 0=0:=fun h=>by rw [zbd v _ _ (by omega)]
     have hp1:zhk s' v i c=s'.getD i 0+c+v.getD i 0:=rfl
     generalize zhk s' v i c=p at*
     by_cases c1:(i:Int)<v.length
     ·simp (disch:=first|assumption|(push_cast<;>omega)|omega) only [go_sem,c1,hmg]
      repeat refine And.intro (by first|omega|exact⟨by omega,by omega⟩|rfl) ?_
      refine zo (i+1,s'.set i (p % 1000000000),p / 1000000000) ⟨by dsimp only;omega,hstep⟩ (by dsimp only;omega) (Sub.of [] rfl ?_ ?_ (by decide) (fun b hb hw=>absurd (Nat.lt_one_iff.1 hb) (by simpa using hw)))
      ·simp only [go_sem]
       simp only [V.int.injEq,true_and]
       omega
      ·simp only [go_sem]
       rw [setN' (d:=p % 1000000000) (by omega),hset]
     ·have hw0:=hvz c1
      simp (disch:=first|assumption|(push_cast<;>omega)|omega) only [go_sem,c1,hmg]
      repeat refine And.intro (by first|omega|exact⟨by omega,by omega⟩|rfl) ?_
      refine zo (i+1,s'.set i (p % 1000000000),p / 1000000000) ⟨by dsimp only;omega,hstep⟩ (by dsimp only;omega) (Sub.of [] rfl ?_ ?_ (by decide) (fun b hb hw=>absurd (Nat.lt_one_iff.1 hb) (by simpa using hw)))
      ·simp only [go_sem]
       simp only [V.int.injEq,true_and]
       omega
      ·simp only [go_sem]
       rw [setN' (d:=p % 1000000000) (by omega),hset]
    ·have hie:i=v.length+1:=by omega
     subst hie
     have hfin:=hback s' c (by rw [ls];exact hv)
     rw [←hfin]
     simp (disch:=first|assumption|(push_cast<;>omega)|omega) only [go_sem]
     refine AXa.go mixed (zh) (zf) (by kernel_rfl) ?_
     simp (disch:=first|assumption|(push_cast<;>omega)|omega) only [go_sem]
     exact⟨[(4,.int .u64 (q - 1:Nat))],(Sub.of [] rfl (by(simp only [go_sem];try (simp only [V.int.injEq,true_and];omega))) (by simp only [go_sem]) (by decide) (fun b hb hw=>absurd (Nat.lt_one_iff.1 hb) (by simpa using hw))),by simp only [go_sem]⟩
end Go.Proofs
