/- One digit of a long division. -/
import Derived.Test.YthbimeikbkjnkaaGreatDoorCPlDiv2
set_option linter.all false
set_option maxHeartbeats 16000000
set_option maxRecDepth 100000
namespace Go.Proofs
open Tryz Go.Ab Go.Pl
theorem zgs {l:List Nat}{o n i:Nat}(hi:i≤n):(seg l o n).getD i 0=l.getD (o+i) 0:=by unfold Go.Pl.seg;rw [getD_take _ _ _ _ (by omega),getD_drop]
theorem setN' {k:IntKind}{l:List Nat}{n d:Nat}{v:Int}(h:v=(d:Nat)):(nats k l).set n (.int k v)=nats k (l.set n d):=by rw [h,zj6]
theorem zyu(l v:List Nat)(o:Nat)(hd:DigOK (seg l o v.length) v)(ho:o+v.length+1≤l.length)(ol:okL l)(hl:l.length≤1000000):
 NCall prog 208 [.sl 0 o (v.length+1) 1 none,.fs (nats .u64 v) v.length] [.cells (nats .u64 l)] [0] (.int .u64 (valL (seg l o v.length) / valL v:Nat))
  ⟨[(0,.cells (nats .u64 (mid l o (v.length+1) (digs (v.length+1) (valL (seg l o v.length) % valL v)))))],1⟩:=by
 have hv0:=hd.pos
 have ht:=hd.top
 have ov:=hd.ov
 have g1:=zgs (l:=l) (o:=o) (i:=v.length) (Nat.le_refl _)
 have g2:=zgs (l:=l) (o:=o) (n:=v.length) (i:=v.length - 1) (by omega)
 have b1:=getD_lt ol (o+v.length)
 have b2:=getD_lt ol (o+(v.length - 1))
 have b3:=getD_lt ov (v.length - 1)
 refine NCall.walkWA (rs:=[.tmp 4]) [0,1,4,5,6,7,8,9,10,11,12,13,14,15,70,85,87,88,89,94,125,128,129,130,140] [] 1 [0] mixed (zh) (zg) call208 func208 rfl ntmps208 rfl (by kernel_rfl) (by simp) (by simp) (by simp) (by simp) ?_
 simp only [go_sem]
 refine AXa.cutF 5 (fun p:Nat×Nat=>zgd (seg l o v.length) v p.1 p.2∧p.1<1000000000∧(p.1 - 1)*valL v≤valL (seg l o v.length)) (fun p=>[(0,.sl 0 o (v.length+1) 1 none),(1,.fs (nats .u64 v) v.length),(5,.int .i64 v.length),(7,.int .u64 p.1)]) (fun _=>⟨[(0,.cells (nats .u64 l))],1⟩) rfl mixed zh zg (by kernel_rfl) ?_ ?_
 ·simp (disch:=first|assumption|(push_cast<;>omega)|omega) only [go_sem]
  refine⟨⟨by omega,by omega⟩,by omega,⟨by omega,by omega⟩,by omega,AXk.intro (by kernel_rfl) ?_⟩
  have hs:=zm4 hd
  rw [g1,g2]at hs
  generalize hU:l.getD (o+v.length) 0=U at*
  generalize hU1:l.getD (o+(v.length - 1)) 0=U1 at*
  have hq0:(U*1000000000+U1) / v.getD (v.length - 1) 0≤U*1000000000+U1:=Nat.div_le_self ..
  have hr0:(U*1000000000+U1) % v.getD (v.length - 1) 0<v.getD (v.length - 1) 0:=Nat.mod_lt _ ht
  have hdv:((U:Int)*1000000000+(U1:Int)) / ((v.getD (v.length - 1) 0:Nat):Int)=(((U*1000000000+U1) / v.getD (v.length - 1) 0:Nat):Int):=by rw [Int.natCast_ediv,Int.natCast_add,Int.natCast_mul];rfl
  have hmd:((U:Int)*1000000000+(U1:Int)) % ((v.getD (v.length - 1) 0:Nat):Int)=(((U*1000000000+U1) % v.getD (v.length - 1) 0:Nat):Int):=by rw [Int.natCast_emod,Int.natCast_add,Int.natCast_mul];rfl
  generalize (U*1000000000+U1) / v.getD (v.length - 1) 0=Q0 at*
  generalize (U*1000000000+U1) % v.getD (v.length - 1) 0=R0 at*
  simp (disch:=first|assumption|(push_cast<;>omega)|omega) only [go_sem,hdv,hmd]
  refine⟨⟨by omega,by omega⟩,by omega,by omega,⟨by omega,by omega⟩,by omega,by omega,?_⟩
  refine AXs.loop mixed (zh) (zg) (fun p:Nat×Nat=>[(0,.sl 0 o (v.length+1) 1 none),(1,.fs (nats .u64 v) v.length),(5,.int .i64 v.length),(7,.int .u64 p.1),(8,.int .u64 p.2)]) (fun _=>⟨[(0,.cells (nats .u64 l))],1⟩) (fun p=>zgd (seg l o v.length) v p.1 p.2) (fun p=>p.1) (Q0,R0) (by kernel_rfl) hs (Sub.oE [] rfl ?_ ?_) ?_
  ·simp only [go_sem]
  ·simp only [go_sem]
  rintro⟨q,r⟩ hi
  dsimp only at hi ⊢
  have hi1:=hi.1
  rw [g1,g2]at hi1
  have hq1:q*1≤q*v.getD (v.length - 1) 0:=Nat.mul_le_mul_left _ ht
  by_cases c1:(1000000000:Int)≤q
  ·have d1:decide ((1000000000:Int)≤q)=true:=by simpa using c1
   have hnx:=zt2 hd hi (by omega)
   have hqp:0<q:=by omega
   simp (disch:=first|assumption|(push_cast<;>omega)|omega) only [go_sem,d1]
   refine AXk.intro (by kernel_rfl) ?_
   have hbnd:q*v.getD (v.length - 1) 0+r<1000000000000000000:=by omega
   generalize q*v.getD (v.length - 1) 0=qv at hi1 hbnd hq1
   simp (disch:=first|assumption|(push_cast<;>omega)|omega) only [go_sem]
   refine⟨⟨by omega,by omega⟩,by omega,?_⟩
   have hcb:(decide (1000000000≤(r:Int)+(v.getD (v.length - 1) 0:Nat))&&decide ((q:Int) - 1<1000000000))=decide (1000000000≤r+v.getD (v.length - 1) 0∧q - 1<1000000000):=by rw [Bool.eq_iff_iff];simp only [Bool.and_eq_true,decide_eq_true_eq];omega
   rw [hcb]
   refine AXc.introP (fun h6=>?_) (fun h6=>?_)
   ·simp (disch:=first|assumption|(push_cast<;>omega)|omega) only [go_sem]
    refine zdX (q - 1,r+v.getD (v.length - 1) 0) ⟨hnx,h6.2,zc8 hd hnx h6.2 (.inr (.inl h6.1))⟩ (Sub.oE [] rfl ?_ ?_)
    ·simp only [go_sem]
     simp only [V.int.injEq,true_and];omega
    ·simp only [go_sem]
   ·simp (disch:=first|assumption|(push_cast<;>omega)|omega) only [go_sem]
    refine zk (q - 1,r+v.getD (v.length - 1) 0) hnx (by dsimp only;omega) (Sub.oE [] rfl ?_ ?_)
    ·simp only [go_sem]
     refine⟨?_,?_⟩<;>(simp only [V.int.injEq,true_and];omega)
    ·simp only [go_sem]
  ·have d1:decide ((1000000000:Int)≤q)=false:=by simpa using c1
   by_cases c2:1<(v.length:Int)
   ·by_cases c3:(r:Int)<1000000000
    ·have d2:decide (1<(v.length:Int))=true:=by simpa using c2
     have d3:decide ((r:Int)<1000000000)=true:=by simpa using c3
     have w1:IntKind.i64.wrap ((v.length:Int) - 2)=((v.length - 2:Nat):Int):=by rw [wrap_i64]<;>omega
     have b4:=getD_lt ov (v.length - 2)
     have b5:=getD_lt ol (o+(v.length - 2))
     have b6:q*v.getD (v.length - 2) 0≤999999999*999999999:=Nat.mul_le_mul (by omega) (by omega)
     have hm:(q:Int)*((v.getD (v.length - 2) 0:Nat):Int)=((q*v.getD (v.length - 2) 0:Nat):Int):=(Int.natCast_mul ..).symm
     obtain⟨w,hw⟩:∃ w,w=q*v.getD (v.length - 2) 0:=⟨_,rfl⟩
     rw [←hw]at hm b6
     obtain⟨R9,hR9⟩:∃ R9,R9=r*1000000000:=⟨_,rfl⟩
     have hR:(r:Int)*1000000000=(R9:Int):=by omega
     obtain⟨Z,hZ⟩:∃ Z,Z=R9+l.getD (o+(v.length - 2)) 0:=⟨_,rfl⟩
     have hZ':(R9:Int)+((l.getD (o+(v.length - 2)) 0:Nat):Int)=(Z:Int):=by omega
     simp (disch:=first|assumption|(push_cast<;>omega)|omega) only [go_sem,d1,d2,d3,w1,hm,hR,hZ']
     refine⟨⟨by omega,by omega⟩,by omega,⟨by omega,by omega⟩,by omega,AXk.intro (by kernel_rfl) ?_⟩
     refine AXc.introP (fun h4=>?_) (fun h4=>?_)
     ·have hnx:=zpm hd hi (by omega) (by rw [zgs (by omega), ←hw, ←hR9, ←hZ];omega)
      have hqp:0<q:=by
       rcases Nat.eq_zero_or_pos q with h0|h0
       ·rw [h0,Nat.zero_mul]at hw;omega
       ·exact h0
      clear hw hR9 hZ hZ' hR hm
      have hbnd:q*v.getD (v.length - 1) 0+r<1000000000000000000:=by omega
      generalize q*v.getD (v.length - 1) 0=qv at hi1 hbnd hq1
      simp (disch:=first|assumption|(push_cast<;>omega)|omega) only [go_sem]
      refine⟨⟨by omega,by omega⟩,by omega,?_⟩
      have hcb:(decide (1000000000≤(r:Int)+(v.getD (v.length - 1) 0:Nat))&&decide ((q:Int) - 1<1000000000))=decide (1000000000≤r+v.getD (v.length - 1) 0∧q - 1<1000000000):=by rw [Bool.eq_iff_iff];simp only [Bool.and_eq_true,decide_eq_true_eq];omega
      rw [hcb]
      refine AXc.introP (fun h6=>?_) (fun h6=>?_)
      ·simp (disch:=first|assumption|(push_cast<;>omega)|omega) only [go_sem]
       refine zdX (q - 1,r+v.getD (v.length - 1) 0) ⟨hnx,h6.2,zc8 hd hnx h6.2 (.inr (.inl h6.1))⟩ (Sub.oE [] rfl ?_ ?_)
       ·simp only [go_sem]
        simp only [V.int.injEq,true_and];omega
       ·simp only [go_sem]
      ·simp (disch:=first|assumption|(push_cast<;>omega)|omega) only [go_sem]
       refine zk (q - 1,r+v.getD (v.length - 1) 0) hnx (by dsimp only;omega) (Sub.oE [] rfl ?_ ?_)
       ·simp only [go_sem]
        refine⟨?_,?_⟩<;>(simp only [V.int.injEq,true_and];omega)
       ·simp only [go_sem]
     ·simp (disch:=first|assumption|(push_cast<;>omega)|omega) only [go_sem]
      refine zdX (q,r) ⟨hi,by dsimp only;omega,zc8 hd hi (by omega) (.inr (.inr (by rw [zgs (by omega), ←hw, ←hR9, ←hZ];omega)))⟩ (Sub.oE [] rfl ?_ ?_)
      ·simp only [go_sem]
      ·simp only [go_sem]
    ·have d2:decide (1<(v.length:Int))=true:=by simpa using c2
     have d3:decide ((r:Int)<1000000000)=false:=by simpa using c3
     simp (disch:=first|assumption|(push_cast<;>omega)|omega) only [go_sem,d1,d2,d3]
     refine AXk.intro (by kernel_rfl) ?_
     simp (disch:=first|assumption|(push_cast<;>omega)|omega) only [go_sem]
     refine zdX (q,r) ⟨hi,by dsimp only;omega,zc8 hd hi (by omega) (.inr (.inl (by omega)))⟩ (Sub.oE [] rfl ?_ ?_)
     ·simp only [go_sem]
     ·simp only [go_sem]
   ·have d2:decide (1<(v.length:Int))=false:=by simpa using c2
    simp (disch:=first|assumption|(push_cast<;>omega)|omega) only [go_sem,d1,d2]
    refine AXk.intro (by kernel_rfl) ?_
    simp (disch:=first|assumption|(push_cast<;>omega)|omega) only [go_sem]
    refine zdX (q,r) ⟨hi,by dsimp only;omega,zc8 hd hi (by omega) (.inl (by omega))⟩ (Sub.oE [] rfl ?_ ?_)
    ·simp only [go_sem]
    ·simp only [go_sem]
 ·rintro⟨q,r⟩ ⟨h1,h2,h3⟩
  dsimp only at h1 h2 h3 ⊢
  have hQ:=h1.2
  have hsl:(seg l o v.length).length=v.length+1:=hd.len
  have hms:mid l o (v.length+1) (seg l o v.length)=l:=mid_seg (by omega)
  have hst:=zvs q (seg l o v.length) v hd.ou
  have hln:o+(v.length+1)≤l.length:=by omega
  clear h1 g1 g2 b1 b2 b3
  refine AXa.go mixed (zh) (zg) (by kernel_rfl) ?_
  simp (disch:=first|assumption|(push_cast<;>omega)|omega) only [go_sem]
  refine AXs.loop mixed (zh) (zg) (fun p:Nat×List Nat×Nat×Nat=>[(0,.sl 0 o (v.length+1) 1 none),(1,.fs (nats .u64 v) v.length),(5,.int .i64 v.length),(7,.int .u64 q),(9,.int .u64 p.2.2.1),(10,.int .u64 p.2.2.2),(87,.int .i64 (v.length+1:Int)),(88,.int .i64 p.1)])
   (fun p=>⟨[(0,.cells (nats .u64 (mid l o (v.length+1) p.2.1)))],1⟩) (fun p=>p.1≤v.length+1∧ziU q (seg l o v.length) v p.1 p.2.1 p.2.2.1 p.2.2.2∧(p.1=v.length+1→p.2.2.2=0)) (fun p=>v.length+1 - p.1) (0,seg l o v.length,0,0) (by kernel_rfl) ⟨Nat.zero_le _,hst,fun h=>rfl⟩ (Sub.oE [] rfl ?_ ?_) ?_
  ·simp only [go_sem]
  ·simp only [go_sem,hms]
  rintro⟨i,s,b,c⟩ ⟨hi,hv,hc0⟩
  dsimp only at hi hv hc0 ⊢
  have ls:=hv.1
  have os:=hv.2.1
  have hbc:=hv.2.2.2.2
  rw [hsl]at ls
  simp (disch:=first|assumption|(push_cast<;>omega)|omega) only [go_sem]
  refine AXc.introP (fun h4=>?_) (fun h4=>?_)
  ·have hin:i<v.length+1:=by omega
   have hstep:=sub_step (i:=i) h2 ov (by rw [hsl];exact hin) hv
   have hcar:i=v.length→subP q v i c / 1000000000=0:=fun e=>by subst e;exact zvt hv
   have hpl:=zvu (i:=i) h2 ov hbc.2
   have hgl:=getD_lt os i
   have hmg:=zqJ ls hln hin
   have hset:∀ d,(mid l o (v.length+1) s).set (o+i) d=mid l o (v.length+1) (s.set i d):=fun d=>zxa ls hln hin
   have hml:(mid l o (v.length+1) s).length=l.length:=zoP ls hln
   have hm:(q:Int)*((v.getD i 0:Nat):Int)=((q*v.getD i 0:Nat):Int):=(Int.natCast_mul ..).symm
   have hp1:subP q v i c=c+q*v.getD i 0:=rfl
   have hvz:¬(i:Int)<v.length→q*v.getD i 0=0:=fun h=>by rw [zaZ v _ _ (by omega)];simp
   obtain⟨w,hw⟩:∃ w,w=q*v.getD i 0:=⟨_,rfl⟩
   rw [←hw]at hm hp1 hvz
   generalize subP q v i c=p at*
   have hd1:subD s i p b=s.getD i 0+1000000000 - p % 1000000000 - b:=rfl
   generalize subD s i p b=d at*
   by_cases c1:(i:Int)<v.length
   ·simp (disch:=first|assumption|(push_cast<;>omega)|omega) only [go_sem,c1,hm,hmg]
    repeat refine And.intro (by first|omega|exact⟨by omega,by omega⟩|rfl) ?_
    refine zk (i+1,s.set i (d % 1000000000),1 - d / 1000000000,p / 1000000000) ⟨by dsimp only;omega,hstep,fun e=>hcar (by dsimp only at e;omega)⟩ (by dsimp only;omega) (Sub.oE [] rfl ?_ ?_)
    ·simp only [go_sem]
     simp only [V.int.injEq,true_and]
     omega
    ·simp only [go_sem]
     rw [setN' (d:=d % 1000000000) (by omega),hset]
   ·have hw0:=hvz c1
    simp (disch:=first|assumption|(push_cast<;>omega)|omega) only [go_sem,c1,hmg]
    repeat refine And.intro (by first|omega|exact⟨by omega,by omega⟩|rfl) ?_
    refine zk (i+1,s.set i (d % 1000000000),1 - d / 1000000000,p / 1000000000) ⟨by dsimp only;omega,hstep,fun e=>hcar (by dsimp only at e;omega)⟩ (by dsimp only;omega) (Sub.oE [] rfl ?_ ?_)
    ·simp only [go_sem]
     simp only [V.int.injEq,true_and]
     omega
    ·simp only [go_sem]
     rw [setN' (d:=d % 1000000000) (by omega),hset]
  ·have hie:i=v.length+1:=by omega
   subst hie
   have hcz:=hc0 rfl
   subst hcz
   rw [←hsl]at hv
   have hse:=sub_end h2 hd hv rfl
   simp (disch:=first|assumption|(push_cast<;>omega)|omega) only [go_sem]
   refine AXa.go mixed (zh) (zg) (by kernel_rfl) ?_
   simp (disch:=first|assumption|(push_cast<;>omega)|omega) only [go_sem]
   refine AXc.introP (fun h5=>?_) (fun h5=>?_)
   ·have hb0:b=0:=by omega
    subst hb0
    rw [Nat.mul_zero,Nat.add_zero]at hse
    obtain⟨e1,e2⟩:=dig_done hd hQ hse
    have hs':s=digs (v.length+1) (valL (seg l o v.length) % valL v):=by have:=zfW os;rw [ls,e2]at this;exact this
    rw [←hs', ←e1]
    simp (disch:=first|assumption|(push_cast<;>omega)|omega) only [go_sem]
    exact⟨[(4,.int .u64 q)],(Sub.of [] rfl (by simp only [go_sem]) (by simp only [go_sem]) (by decide) (fun b hb hw=>absurd (Nat.lt_one_iff.1 hb) (by simpa using hw))),by simp only [go_sem]⟩
   ·have hb1:b=1:=by omega
    subst hb1
    rw [Nat.mul_one]at hse
    obtain⟨e1,e2⟩:=dig_over hd os (by rw [ls,hsl]) hQ h3 hse
    have hq1:valL (seg l o v.length) / valL v=q - 1:=by rw [e1,Nat.add_sub_cancel]
    have hq0:0<q:=by rw [e1];exact Nat.succ_pos _
    have hmodlt:valL (seg l o v.length) % valL v<1000000000 ^ s.length:=by have h6:=Nat.mod_lt (valL (seg l o v.length)) hd.vpos;have h7:=valL_lt ov;rw [ls,Nat.pow_succ];generalize (1000000000:Nat) ^ v.length=pw at*;omega
    have hback:∀ s' c',zf0 s v s.length s' c'→s'=digs (v.length+1) (valL (seg l o v.length) % valL v):=fun s' c' hb=>by have h6:=back_end (by rw [ls];omega) hb hmodlt (by rw [e2,hsl,ls]);have h7:=zfW hb.2.1;rw [hb.1,ls,h6]at h7;exact h7
    rw [hq1]
    generalize valL (seg l o v.length) % valL v=M at*
    clear e1 e2 hse hmodlt hq1 hQ h3 hv hbc hst
    have hst:=zuM s v os
    simp (disch:=first|assumption|(push_cast<;>omega)|omega) only [go_sem]
    refine AXs.loop mixed (zh) (zg) (fun p:Nat×List Nat×Nat=>[(0,.sl 0 o (v.length+1) 1 none),(1,.fs (nats .u64 v) v.length),(5,.int .i64 v.length),(7,.int .u64 q),(10,.int .u64 p.2.2),(128,.int .i64 (v.length+1:Int)),(129,.int .i64 p.1)])
     (fun p=>⟨[(0,.cells (nats .u64 (mid l o (v.length+1) p.2.1)))],1⟩) (fun p=>p.1≤v.length+1∧zf0 s v p.1 p.2.1 p.2.2) (fun p=>v.length+1 - p.1) (0,s,0) (by kernel_rfl) ⟨Nat.zero_le _,hst⟩ (Sub.oE [] rfl ?_ ?_) ?_
    ·simp only [go_sem]
    ·simp only [go_sem]
    rintro⟨i,s',c⟩ ⟨hi,hv⟩
    dsimp only at hi hv ⊢
    have ls':=hv.1
    have os':=hv.2.1
    have hc1:=hv.2.2.2.2
    rw [ls]at ls'
    simp (disch:=first|assumption|(push_cast<;>omega)|omega) only [go_sem]
    refine AXc.introP (fun h4=>?_) (fun h4=>?_)
    ·have hin:i<v.length+1:=by omega
     have hstep:=zAk (i:=i) ov (by rw [ls];exact hin) hv
     have hgl:=getD_lt os' i
     have hgv:=getD_lt ov i
     have hmg:=zqJ ls' hln hin
     have hset:∀ d,(mid l o (v.length+1) s').set (o+i) d=mid l o (v.length+1) (s'.set i d):=fun d=>zxa ls' hln hin
     have hml:(mid l o (v.length+1) s').length=l.length:=zoP ls' hln
     have hvz:¬(i:Int)<v.length→v.getD i 0=0:=fun h=>by rw [zaZ v _ _ (by omega)]
     have hp1:ziK s' v i c=s'.getD i 0+c+v.getD i 0:=rfl
     generalize ziK s' v i c=p at*
     by_cases c1:(i:Int)<v.length
     ·simp (disch:=first|assumption|(push_cast<;>omega)|omega) only [go_sem,c1,hmg]
      repeat refine And.intro (by first|omega|exact⟨by omega,by omega⟩|rfl) ?_
      refine zk (i+1,s'.set i (p % 1000000000),p / 1000000000) ⟨by dsimp only;omega,hstep⟩ (by dsimp only;omega) (Sub.oE [] rfl ?_ ?_)
      ·simp only [go_sem]
       simp only [V.int.injEq,true_and]
       omega
      ·simp only [go_sem]
       rw [setN' (d:=p % 1000000000) (by omega),hset]
     ·have hw0:=hvz c1
      simp (disch:=first|assumption|(push_cast<;>omega)|omega) only [go_sem,c1,hmg]
      repeat refine And.intro (by first|omega|exact⟨by omega,by omega⟩|rfl) ?_
      refine zk (i+1,s'.set i (p % 1000000000),p / 1000000000) ⟨by dsimp only;omega,hstep⟩ (by dsimp only;omega) (Sub.oE [] rfl ?_ ?_)
      ·simp only [go_sem]
       simp only [V.int.injEq,true_and]
       omega
      ·simp only [go_sem]
       rw [setN' (d:=p % 1000000000) (by omega),hset]
    ·have hie:i=v.length+1:=by omega
     subst hie
     have hfin:=hback s' c (by rw [ls];exact hv)
     rw [←hfin]
     simp (disch:=first|assumption|(push_cast<;>omega)|omega) only [go_sem]
     refine AXa.go mixed (zh) (zg) (by kernel_rfl) ?_
     simp (disch:=first|assumption|(push_cast<;>omega)|omega) only [go_sem]
     exact⟨[(4,.int .u64 (q - 1:Nat))],(Sub.of [] rfl (by(simp only [go_sem];try (simp only [V.int.injEq,true_and];omega))) (by simp only [go_sem]) (by decide) (fun b hb hw=>absurd (Nat.lt_one_iff.1 hb) (by simpa using hw))),by simp only [go_sem]⟩
def DigR(args:List V)(H:Hp)(r:AR):Prop:=
 ∃(b o:Nat) (kc:Option Nat) (l v:List Nat),args=[.sl b o (v.length+1) 1 kc,.fs (nats .u64 v) v.length]∧H.get b=some (.cells (nats .u64 l))∧DigOK (seg l o v.length) v∧o+v.length+1≤l.length∧okL l∧l.length≤1000000∧
  (∀ b x,H.get b=some x→b<H.next)∧
  r=⟨True,.int .u64 (valL (seg l o v.length) / valL v:Nat),H.put b (.cells (nats .u64 (mid l o (v.length+1) (digs (v.length+1) (valL (seg l o v.length) % valL v))))),[b],[b]⟩
theorem dgC_ok:∀ args H r,DigR args H r→HCall prog 208 args H r:=by
 rintro args H r ⟨b,o,kc,l,v,rfl,hb,hd,h1,h2,h3,hk,rfl⟩;refine HCall.putS (zyu l v o hd h1 h2 h3) (.int _ _) (zY _ _) (zY _ _) b _ H ⟨rfl,fun i x y hx hy=>?_⟩ hb hk;match i with
 |0=>cases hx;cases hy;exact .sl (π:=fun i=>[b].getD i 0) (b:=0) (Nat.lt_one_iff.2 rfl) (.inl rfl)
 |1=>cases hx;cases hy;exact .same (.fs (zY _ _))
 |i+2=>simp at hx
theorem dgC_uniq {args:List V}{H:Hp}{r r':AR}(h:DigR args H r)(h':DigR args H r'):r'=r:=by obtain⟨b,o,kc,l,v,rfl,hb,_,_,_,_,_,rfl⟩:=h;obtain⟨b',o',kc',l',v',he,hb',_,_,_,_,_,rfl⟩:=h';simp only [List.cons.injEq,V.sl.injEq,V.fs.injEq,and_true,true_and]at he;obtain⟨⟨rfl,rfl,_,rfl⟩,e,_⟩:=he;obtain rfl:=zan e;rw [hb]at hb';simp only [Option.some.injEq,Blk.cells.injEq]at hb';rw [zan hb']
theorem dgC_eq(b o:Nat)(kc:Option Nat)(l v:List Nat)(H:Hp)(hb:H.get b=some (.cells (nats .u64 l)))(hd:DigOK (seg l o v.length) v)(h1:o+v.length+1≤l.length)(h2:okL l)(h3:l.length≤1000000)(hk:∀ b x,H.get b=some x→b<H.next):
 conD DigR [.sl b o (v.length+1) 1 kc,.fs (nats .u64 v) v.length] H=some ⟨True,.int .u64 (valL (seg l o v.length) / valL v:Nat),H.put b (.cells (nats .u64 (mid l o (v.length+1) (digs (v.length+1) (valL (seg l o v.length) % valL v))))),[b],[b]⟩:=by
 have hr:DigR [.sl b o (v.length+1) 1 kc,.fs (nats .u64 v) v.length] H ⟨True,.int .u64 (valL (seg l o v.length) / valL v:Nat),H.put b (.cells (nats .u64 (mid l o (v.length+1) (digs (v.length+1) (valL (seg l o v.length) % valL v))))),[b],[b]⟩:=⟨b,o,kc,l,v,rfl,hb,hd,h1,h2,h3,hk,rfl⟩
 exact zaD hr fun _ h'=>dgC_uniq hr h'
noncomputable def ΔD:FuncId→List V→Hp→Option AR:=zbJ 207 (conD zf1) (zbJ 208 (conD DigR) (zbJ 153 (conD zpX) noΔ))
theorem zgN:zaT prog ΔD:=zV (zaq zsk) (zV (zaq dgC_ok) (zV (zaq zqd) zg))
theorem zhG {X k:Nat}(hk:k<1000000000):(limbs (X*k)).length≤(limbs X).length+1:=by apply zaJ;have h1:=valL_lt (zH X);rw [zD]at h1;rw [Nat.pow_succ];exact Nat.mul_lt_mul'' h1 hk
theorem zeX:∀ l:List Nat,(zat l).length≤l.length
 |[]=>Nat.le_refl _
 |d::l=>by
  have:=zeX l;unfold zat;split
  ·simp
  ·simpa using this
theorem zgX:∀ l:List Nat,l.take (zat l).length=zat l
 |[]=>rfl
 |d::l=>by
  have:=zgX l;unfold zat;split
  ·simp
  ·simpa using this
theorem zfX(x m:Nat)(h:(limbs x).length≤m):digs m x=limbs x++List.replicate (m - (limbs x).length) 0:=by
 have ok:okL (limbs x++List.replicate (m - (limbs x).length) 0):=okL_append.2 ⟨zH x,fun d hd=>by have:=List.eq_of_mem_replicate hd;omega⟩;have hz:∀ j,valL (List.replicate j 0)=0:=by
  intro j;induction j with
  |zero=>rfl
  |succ j ih=>rw [List.replicate_succ,valL,ih]
 have:=zfW ok;rw [zaF,hz,Nat.mul_zero,Nat.add_zero,zD,List.length_append,List.length_replicate]at this;rw [this,Nat.add_sub_cancel' h]
theorem zyt(X Y:Nat)(hX:(limbs X).length≤500)(hYl:(limbs Y).length≤500)(hY:Y≠0):PCall prog 179 [.fs (nats .u64 (limbs X)) (limbs X).length,.fs (nats .u64 (limbs Y)) (limbs Y).length]
 (.ret (.tup [.fs (nats .u64 (limbs (X / Y))) (limbs (X / Y)).length,.fs (nats .u64 (limbs (X % Y))) (limbs (X % Y)).length])):=by
 have hΓ:=zf zd5 (zh (P:=prog))
 refine PCall.wD (rs:=[.tmp 4,.tmp 5]) [0,1,4,5,6,7,8,9,10,11,12,13,14,18,39,49,50,51,74,75,76] [] mixed (hΓ) (zgN) call179 func179 rfl ntmps179 rfl ?_
 simp (disch:=first|assumption|(push_cast<;>omega)|omega) only [go_sem]
 refine AXc.introP (fun h1=>?_) (fun h1=>?_)
 ·have h2:X<Y:=by
   rw [zby]at h1
   split at h1
   ·assumption
   ·split at h1<;>omega
  rw [Nat.div_eq_of_lt h2,Nat.mod_eq_of_lt h2]
  simp only [go_sem,zaH]
 ·have h2:Y≤X:=by
   rw [zby]at h1
   split at h1<;>omega
  obtain⟨n,hn⟩:∃ n,n=(limbs Y).length:=⟨_,rfl⟩
  have hyl:=zco hY
  rw [←hn]at hyl
  have hyt:=getD_lt (zH Y) (n - 1)
  obtain⟨k,hk⟩:∃ k,k=1000000000 / ((limbs Y).getD (n - 1) 0+1):=⟨_,rfl⟩
  obtain⟨k0,k1,k2⟩:=norm_len hn hY hk
  have hkI:(1000000000:Int) / (((limbs Y).getD (n - 1) 0:Nat)+1)=(k:Int):=by rw [hk,Int.natCast_ediv];rfl
  have hn0:0<n:=by
   rcases Nat.eq_zero_or_pos n with h0|h0
   ·rw [h0]at hn;exact absurd (limbs_nil.1 (List.eq_nil_of_length_eq_zero hn.symm)) hY
   ·exact h0
  have hm0:0<(limbs X).length:=by
   rcases Nat.eq_zero_or_pos (limbs X).length with h0|h0
   ·have:=limbs_nil.1 (List.eq_nil_of_length_eq_zero h0);omega
   ·exact h0
  obtain⟨m,hm⟩:∃ m,m=(limbs X).length+1:=⟨_,rfl⟩
  have hnm:n<m:=by refine Nat.lt_of_le_of_lt ?_ (show (limbs X).length<m by omega);rw [hn];refine Nat.le_of_not_lt fun hlt=>?_;have:=zaR hlt;omega
  have hstart:=DivInv.start hm0 hm hn hY h2 k1 k0 k2 hnm
  have hS1:ΔD 207 [.fs (nats .u64 (limbs X)) (limbs X).length,.int .u64 k] ⟨[],0⟩=some ⟨True,.sl 0 0 (limbs (X*k)).length 1 none,⟨[(0,.cells (nats .u64 (digs m (X*k))))],1⟩,[],[]⟩:=by rw [hm];exact ziY X k (by omega) k1 [] 0 rfl
  have hS2:∀ B,ΔD 207 [.fs (nats .u64 (limbs Y)) n,.int .u64 k] ⟨[(0,.cells B)],1⟩=some ⟨True,.sl 1 0 n 1 none,⟨[(1,.cells (nats .u64 (digs (n+1) (Y*k)))),(0,.cells B)],2⟩,[],[]⟩:=fun B=>by have:=ziY Y k (by omega) k1 [(0,.cells B)] 1 rfl;rw [k2, ←hn]at this;exact this
  obtain⟨m0,hm0'⟩:∃ m0,m0=(limbs (X*k)).length:=⟨_,rfl⟩
  have hXk:=zfX (X*k) m (by rw [hm];exact zhG k1)
  have hle1:m0≤m:=by rw [hm0',hm];exact zhG k1
  have hle2:m≤m0+1:=by rw [hm0',hm];refine Nat.add_le_add_right (Nat.le_of_not_lt fun hlt=>?_) 1;have h3:=zaR hlt;have h4:X≤X*k:=Nat.le_mul_of_pos_right _ k0;omega
  simp (disch:=first|assumption|(push_cast<;>omega)|omega) only [go_sem, ←hn,hkI,hS1,hS2, ←hm0']
  refine⟨⟨by omega,by omega⟩,by omega,by omega,?_⟩
  refine AXs.loop mixed (hΓ) (zgN) (fun e:Nat=>[(0,.fs (nats .u64 (limbs X)) (limbs X).length),(6,.int .i64 n),(7,.int .u64 k),(8,.sl 0 0 (m0+e) 1 none),(9,.sl 1 0 n 1 none)]) (fun _=>⟨[(1,.cells (nats .u64 (digs (n+1) (Y*k)))),(0,.cells (nats .u64 (digs m (X*k))))],2⟩) (fun e=>m0+e≤m) (fun e=>m - (m0+e)) 0 (by kernel_rfl) hle1 (Sub.of0 [] rfl rfl ?_ ?_) ?_
  ·simp only [go_sem]
  ·simp only [go_sem]
  rintro e he
  simp (disch:=first|assumption|(push_cast<;>omega)|omega) only [go_sem]
  refine AXc.introP (fun h3=>?_) (fun h3=>?_)
  ·have he0:e=0:=by omega
   subst he0
   have hm1:m=m0+1:=by omega
   have hdl:=zdz m (X*k)
   have hcat:List.take m0 (digs m (X*k))++[0]=digs m (X*k):=by rw [hXk, ←hm0',List.take_left' hm0'.symm,hm1,Nat.add_sub_cancel_left];rfl
   simp (disch:=first|assumption|(push_cast<;>omega)|omega) only [go_sem]
   refine⟨⟨by omega,by omega,by omega⟩,?_⟩
   refine zk 1 (by omega) (by omega) (Sub.of0 [(0,3)] rfl rfl ?_ ?_)
   ·simp only [go_sem]
   ·simp only [go_sem]
    rw [show ([V.int .u64 0]:List V)=nats .u64 [0]from rfl]
    conv=>rhs;rw [←hcat]
    simp [nats]
  ·have hme:m0+e=m:=by omega
   have hln:=zdz m (X*k)
   have hlv:=zdz (n+1) (Y*k)
   have hYk:=zfX (Y*k) (n+1) (by omega)
   rw [k2,show n+1 - n=1 by omega]at hYk
   rw [hme]
   simp (disch:=first|assumption|(push_cast<;>omega)|omega) only [go_sem]
   refine AXa.fz [1] rfl rfl rfl (env':=[(6,.int .i64 n),(7,.int .u64 k),(8,.sl 0 0 m 1 none),(9,.fs (nats .u64 (limbs (Y*k))) n)]) (bs':=[(0,.cells (nats .u64 (digs m (X*k))))]) (n':=2) ?_ ?_ ?_
   ·simp only [go_sem]
    refine⟨.inl ⟨by simp,rfl⟩,.inr ?_⟩
    exact FrzF.slp (by simp) rfl (by omega) (by rw [zM,hlv];omega) (by rw [List.drop_zero,Nat.mul_one,zbO,hYk,List.take_left' (by rw [k2])]) (zY _ _)
   ·simp only [go_sem]
    simp
   refine AXa.go mixed (hΓ) (zgN) (by kernel_rfl) ?_
   simp (disch:=first|assumption|(push_cast<;>omega)|omega) only [go_sem,zqe,zk1]
   refine⟨⟨by omega,by omega,by omega,by omega⟩,?_⟩
   have hvt:=zco (n:=Y*k) (by have:=Nat.mul_pos (Nat.pos_of_ne_zero hY) k0;omega)
   have okV:=zH (Y*k)
   have hfin:∀ q u,DivInv (X*k) (limbs (Y*k)) m 0 q u→zat q=limbs (X / Y)∧zat u=limbs (X % Y*k):=fun q u h=>by have:=h.done;rw [zD,Nat.mul_div_mul_right _ _ k0,Nat.mul_mod_mul_right]at this;exact this
   generalize limbs (Y*k)=VV at*
   subst k2
   refine AXs.loop mixed (hΓ) (zgN) (fun p:Nat×List Nat×List Nat=>[(4,.sl 2 0 (m - VV.length) 1 (some (m - VV.length))),(6,.int .i64 VV.length),(7,.int .u64 k),(8,.sl 0 0 m 1 none),(9,.fs (nats .u64 VV) VV.length),(49,.int .i64 (m - VV.length:Nat)),(50,.int .i64 p.1)]) (fun p=>⟨[(2,.cells (nats .u64 p.2.1)),(0,.cells (nats .u64 p.2.2))],3⟩)
    (fun p=>p.1≤m - VV.length∧DivInv (X*k) VV m (m - VV.length - p.1) p.2.1 p.2.2) (fun p=>m - VV.length - p.1) (0,List.replicate (m - VV.length) 0,digs m (X*k)) (by kernel_rfl) ⟨Nat.zero_le _,hstart⟩ (Sub.of0 [] rfl rfl ?_ ?_) ?_
   ·simp only [go_sem]
   ·simp only [go_sem]
   rintro⟨i,q,u⟩ ⟨hi,hinv⟩
   dsimp only at hi hinv ⊢
   have lu:=hinv.lu
   have lq:=hinv.lq
   simp (disch:=first|assumption|(push_cast<;>omega)|omega) only [go_sem]
   refine AXc.introP (fun h4=>?_) (fun h4=>?_)
   ·obtain⟨a,ha⟩:∃ a,a=m - VV.length - 1 - i:=⟨_,rfl⟩
    rw [show m - VV.length - i=a+1 by omega]at hinv
    obtain⟨hdig,_,_⟩:=hinv.segm okV hn0 (Nat.pos_of_ne_zero hvt) (by omega)
    have hstep:=hinv.step okV hn0 (Nat.pos_of_ne_zero hvt) (by omega)
    have hai:((m - VV.length:Nat):Int) - 1 - (i:Int)=(a:Int):=by omega
    have hD:ΔD 208 [.sl 0 a (a+VV.length+1 - a) 1 none,.fs (nats .u64 VV) VV.length] ⟨[(2,.cells (nats .u64 q)),(0,.cells (nats .u64 u))],3⟩=
     some ⟨True,.int .u64 (valL (seg u a VV.length) / valL VV:Nat),⟨[(2,.cells (nats .u64 q)),(0,.cells (nats .u64 (mid u a (VV.length+1) (digs (VV.length+1) (valL (seg u a VV.length) % valL VV)))))],3⟩,[0],[0]⟩:=by
     rw [show a+VV.length+1 - a=VV.length+1 by omega]
     exact dgC_eq 0 a none u VV ⟨[(2,.cells (nats .u64 q)),(0,.cells (nats .u64 u))],3⟩ rfl hdig (by omega) hinv.ou (by omega) (zbp rfl)
    generalize valL (seg u a VV.length) / valL VV=dd at*
    generalize mid u a (VV.length+1) (digs (VV.length+1) (valL (seg u a VV.length) % valL VV))=u' at*
    simp (disch:=first|assumption|(push_cast<;>omega)|omega) only [go_sem,hai,hD]
    refine⟨⟨by omega,by omega,by omega⟩,⟨by omega,by omega⟩,by omega,?_⟩
    refine zk (i+1,q.set a dd,u') ⟨by dsimp only;omega,?_⟩ (by dsimp only;omega) (Sub.of0 [] rfl rfl ?_ ?_)
    ·dsimp only
     rw [show m - VV.length - (i+1)=a by omega]
     exact hstep
    ·simp only [go_sem]
     simp
    ·simp only [go_sem]
   ·have hie:i=m - VV.length:=by omega
    subst hie
    rw [Nat.sub_self]at hinv
    obtain⟨e1,e2⟩:=hfin q u hinv
    have oq:=hinv.oq
    have ou:=hinv.ou
    have hT:∀ Bq,ΔD 153 [.sl 0 0 m 1 none] ⟨[(2,.cells Bq),(0,.cells (nats .u64 u))],3⟩=some ⟨True,.sl 0 0 (limbs (X % Y*k)).length 1 none,⟨[(2,.cells Bq),(0,.cells (nats .u64 u))],3⟩,[0],[]⟩:=fun Bq=>by have:=zgr 0 m none u [(2,.cells Bq),(0,.cells (nats .u64 u))] 3 rfl (by omega) (by omega) rfl;rw [List.take_of_length_le (by omega),e2]at this;exact this
    simp (disch:=first|assumption|(push_cast<;>omega)|omega) only [go_sem]
    refine AXa.go mixed (hΓ) (zgN) (by kernel_rfl) ?_
    simp (disch:=first|assumption|(push_cast<;>omega)|omega) only [go_sem,hT]
    have hu:u=limbs (X % Y*k)++List.replicate (m - (limbs (X % Y*k)).length) 0:=by
     have h5:=zfW ou;have h6:valL u=X % Y*k:=zb9 (by rw [←zaX ou,e2]);rw [lu,h6]at h5;rw [←zfX _ _ ?_]
     ·exact h5
     ·rw [←e2, ←lu];exact zeX u
    have hlr:(limbs (X % Y*k)).length≤1000:=by have:=congrArg List.length hu;rw [List.length_append]at this;omega
    have hrd:=fun r c=>rem_done (z:=X % Y) (r:=r) (c:=c) k0
    have hrs:=zv6 (r0:=limbs (X % Y*k)) k0 (zH _)
    clear hT e2 ou hinv
    generalize limbs (X % Y*k)=r0 at*
    generalize List.replicate (m - r0.length) 0=z at*
    subst hu
    refine AXs.loop mixed (hΓ) (zgN) (fun p:Nat×List Nat×Nat=>[(4,.sl 2 0 (m - VV.length) 1 (some (m - VV.length))),(5,.sl 0 0 r0.length 1 none),(7,.int .u64 k),(12,.int .u64 p.2.2),(74,.int .i64 r0.length),(75,.int .i64 p.1)]) (fun p=>⟨[(2,.cells (nats .u64 q)),(0,.cells (nats .u64 (p.2.1++z)))],3⟩)
     (fun p=>p.1≤r0.length∧zl2 k r0 (r0.length - p.1) p.2.1 p.2.2) (fun p=>r0.length - p.1) (0,r0,0) (by kernel_rfl) ⟨Nat.zero_le _,hrs⟩ (Sub.of0 [] rfl rfl ?_ ?_) ?_
    ·simp only [go_sem]
    ·simp only [go_sem]
    rintro⟨i,r,c⟩ ⟨hi,hr⟩
    dsimp only at hi hr ⊢
    have lr:=hr.1
    simp (disch:=first|assumption|(push_cast<;>omega)|omega) only [go_sem]
    refine AXc.introP (fun h4=>?_) (fun h4=>?_)
    ·obtain⟨e,he⟩:∃ e,e=r0.length - 1 - i:=⟨_,rfl⟩
     rw [show r0.length - i=e+1 by omega]at hr
     obtain⟨hst,hb⟩:=rem_step k1 (by omega) hr
     have hei:((r0.length:Nat):Int) - 1 - (i:Int)=(e:Int):=by omega
     have hg:(r++z).getD e 0=r.getD e 0:=by rw [List.getD_eq_getElem?_getD,List.getElem?_append_left (by omega),List.getD_eq_getElem?_getD]
     have hset:∀ d,(r++z).set e d=r.set e d++z:=fun d=>List.set_append_left _ _ (by omega)
     obtain⟨R9,hR9⟩:∃ R9,R9=c*1000000000:=⟨_,rfl⟩
     have hR:(c:Int)*1000000000=(R9:Int):=by omega
     obtain⟨T,hT⟩:∃ T,T=R9+r.getD e 0:=⟨_,rfl⟩
     have hT':(R9:Int)+((r.getD e 0:Nat):Int)=(T:Int):=by omega
     rw [←hR9, ←hT]at hst hb
     have hdv:(T:Int) / (k:Int)=((T / k:Nat):Int):=(Int.natCast_ediv ..).symm
     have hmd:(T:Int) % (k:Int)=((T % k:Nat):Int):=(Int.natCast_emod ..).symm
     have hdk:T / k≤T:=Nat.div_le_self ..
     have hmk:T % k≤T:=Nat.mod_le ..
     have lrz:(r++z).length=r.length+z.length:=List.length_append
     generalize T / k=td at*
     generalize T % k=tm at*
     simp (disch:=first|assumption|(push_cast<;>omega)|omega) only [go_sem,hei,hg,hR,hT',hdv,hmd]
     refine⟨⟨by omega,by omega⟩,by omega,by omega,by omega,⟨by omega,by omega⟩,by omega,AXk.intro (by kernel_rfl) ?_⟩
     simp (disch:=first|assumption|(push_cast<;>omega)|omega) only [go_sem]
     refine zk (i+1,r.set e td,tm) ⟨by dsimp only;omega,?_⟩ (by dsimp only;omega) (Sub.of0 [] rfl rfl ?_ ?_)
     ·dsimp only
      rw [show r0.length - (i+1)=e by omega]
      exact hst
     ·simp only [go_sem]
      simp
     ·simp only [go_sem]
      rw [hset]
    ·have hie:i=r0.length:=by omega
     subst hie
     rw [Nat.sub_self]at hr
     have e2:=hrd r c hr
     simp (disch:=first|assumption|(push_cast<;>omega)|omega) only [go_sem]
     refine AXa.go mixed (hΓ) (zgN) (by kernel_rfl) ?_
     have hT1:ΔD 153 [.sl 2 0 (m - VV.length) 1 (some (m - VV.length))] ⟨[(2,.cells (nats .u64 q)),(0,.cells (nats .u64 (r++z)))],3⟩=some ⟨True,.sl 2 0 (limbs (X / Y)).length 1 none,⟨[(2,.cells (nats .u64 q)),(0,.cells (nats .u64 (r++z)))],3⟩,[2],[]⟩:=by have:=zgr 2 (m - VV.length) (some (m - VV.length)) q [(2,.cells (nats .u64 q)),(0,.cells (nats .u64 (r++z)))] 3 rfl (by omega) (by omega) rfl;rw [List.take_of_length_le (by omega),e1]at this;exact this
     have hT2:ΔD 153 [.sl 0 0 r0.length 1 none] ⟨[(2,.cells (nats .u64 q)),(0,.cells (nats .u64 (r++z)))],3⟩=some ⟨True,.sl 0 0 (limbs (X % Y)).length 1 none,⟨[(2,.cells (nats .u64 q)),(0,.cells (nats .u64 (r++z)))],3⟩,[0],[]⟩:=by have:=zgr 0 r0.length none (r++z) [(2,.cells (nats .u64 q)),(0,.cells (nats .u64 (r++z)))] 3 rfl (by rw [List.length_append];omega) (by rw [List.length_append]at *; omega) rfl;rw [List.take_left' (by omega),e2]at this;exact this
     simp (disch:=first|assumption|(push_cast<;>omega)|omega) only [go_sem,hT1,hT2]
     have p1:=zgX q
     have p2:=zgX r
     have p3:=zeX q
     have p4:=zeX r
     rw [e1]at p1 p3
     rw [e2]at p2 p4
     refine⟨Frz.slp rfl rfl (by rw [zM];omega) ?_ (zY _ _),Frz.slp rfl rfl (by rw [zM,List.length_append];omega) ?_ (zY _ _)⟩
     ·rw [List.drop_zero,Nat.mul_one,zbO,p1]
     ·rw [List.drop_zero,Nat.mul_one,zbO,List.take_append_of_le_length p4,p2]
end Go.Proofs
