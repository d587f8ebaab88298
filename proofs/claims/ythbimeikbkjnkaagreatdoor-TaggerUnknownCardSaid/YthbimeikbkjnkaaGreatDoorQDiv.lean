/- Long division of blocks. -/
import Derived.Test.YthbimeikbkjnkaaGreatDoorQDig
import Derived.Test.YthbimeikbkjnkaaGreatDoorQNat5
set_option linter.all false
namespace Go.Proofs
open Go.Ab Go.Pl
def DigR(args:List V)(H:Hp)(r:AR):Prop:=
 ∃(b o:Nat) (kc:Option Nat) (l v:List Nat),args=[.sl b o (v.length+1) 1 kc,.fs (nats .u64 v) v.length]∧H.get b=some (.cells (nats .u64 l))∧DigOK (seg l o v.length) v∧o+v.length+1≤l.length∧okL l∧l.length≤1000000∧
  (∀ b x,H.get b=some x→b<H.next)∧
  r=⟨True,.int .u64 (valL (seg l o v.length) / valL v:Nat),H.put b (.cells (nats .u64 (mid l o (v.length+1) (digs (v.length+1) (valL (seg l o v.length) % valL v))))),[b],[b]⟩
theorem dgC_ok:∀ args H r,DigR args H r→HCall Tryz.prog 208 args H r:=by
 rintro args H r ⟨b,o,kc,l,v,rfl,hb,hd,h1,h2,h3,hk,rfl⟩;refine HCall.putS (zvg l v o hd h1 h2 h3) (.int _ _) (zaa _ _) (zaa _ _) b _ H ⟨rfl,fun i x y hx hy=>?_⟩ hb hk;match i with
 |0=>cases hx;cases hy;exact .sl (π:=fun i=>[b].getD i 0) (b:=0) (Nat.lt_one_iff.2 rfl) (.inl rfl)
 |1=>cases hx;cases hy;exact .same (.fs (zaa _ _))
 |i+2=>simp at hx
theorem dgC_uniq {args:List V}{H:Hp}{r r':AR}(h:DigR args H r)(h':DigR args H r'):r'=r:=by obtain⟨b,o,kc,l,v,rfl,hb,_,_,_,_,_,rfl⟩:=h;obtain⟨b',o',kc',l',v',he,hb',_,_,_,_,_,rfl⟩:=h';simp only [List.cons.injEq,V.sl.injEq,V.fs.injEq,and_true,true_and]at he;obtain⟨⟨rfl,rfl,_,rfl⟩,e,_⟩:=he;obtain rfl:=zar e;rw [hb]at hb';simp only [Option.some.injEq,Blk.cells.injEq]at hb';rw [zar hb']
theorem dgC_eq(b o:Nat)(kc:Option Nat)(l v:List Nat)(H:Hp)(hb:H.get b=some (.cells (nats .u64 l)))(hd:DigOK (seg l o v.length) v)(h1:o+v.length+1≤l.length)(h2:okL l)(h3:l.length≤1000000)(hk:∀ b x,H.get b=some x→b<H.next):
 conD DigR [.sl b o (v.length+1) 1 kc,.fs (nats .u64 v) v.length] H=some ⟨True,.int .u64 (valL (seg l o v.length) / valL v:Nat),H.put b (.cells (nats .u64 (mid l o (v.length+1) (digs (v.length+1) (valL (seg l o v.length) % valL v))))),[b],[b]⟩:=by
 have hr:DigR [.sl b o (v.length+1) 1 kc,.fs (nats .u64 v) v.length] H ⟨True,.int .u64 (valL (seg l o v.length) / valL v:Nat),H.put b (.cells (nats .u64 (mid l o (v.length+1) (digs (v.length+1) (valL (seg l o v.length) % valL v))))),[b],[b]⟩:=⟨b,o,kc,l,v,rfl,hb,hd,h1,h2,h3,hk,rfl⟩
 exact zax hr fun _ h'=>dgC_uniq hr h'
noncomputable def ΔD:FuncId→List V→Hp→Option AR:=zcu 207 (conD ze5) (zcu 208 (conD DigR) (zcu 153 (conD znM) noΔ))
theorem zfD:za0 Tryz.prog ΔD:=zas (zaQ zpI) (zas (zaQ dgC_ok) (zas (zaQ znW) zf))
theorem zgl {X k:Nat}(hk:k<1000000000):(limbs (X*k)).length≤(limbs X).length+1:=by apply zaC;have h1:=zS (zC X);rw [zB]at h1;rw [Nat.pow_succ];exact Nat.mul_lt_mul'' h1 hk
theorem zea:∀ l:List Nat,(zaf l).length≤l.length
 |[]=>Nat.le_refl _
 |d::l=>by
  have:=zea l;unfold zaf;split
  ·simp
  ·simpa using this
theorem zfM:∀ l:List Nat,l.take (zaf l).length=zaf l
 |[]=>rfl
 |d::l=>by
  have:=zfM l;unfold zaf;split
  ·simp
  ·simpa using this
theorem ze1(x m:Nat)(h:(limbs x).length≤m):digs m x=limbs x++List.replicate (m - (limbs x).length) 0:=by
 have ok:okL (limbs x++List.replicate (m - (limbs x).length) 0):=okL_append.2 ⟨zC x,fun d hd=>by have:=List.eq_of_mem_replicate hd;omega⟩;have hz:∀ j,valL (List.replicate j 0)=0:=by
  intro j;induction j with
  |zero=>rfl
  |succ j ih=>rw [List.replicate_succ,valL,ih]
 have:=ze0 ok;rw [zav,hz,Nat.mul_zero,Nat.add_zero,zB,List.length_append,List.length_replicate]at this;rw [this,Nat.add_sub_cancel' h]
set_option maxHeartbeats 4000000 in
set_option maxRecDepth 100000 in
theorem zvf(X Y:Nat)(hX:(limbs X).length≤500)(hYl:(limbs Y).length≤500)(hY:Y≠0):PCall Tryz.prog 179 [.fs (nats .u64 (limbs X)) (limbs X).length,.fs (nats .u64 (limbs Y)) (limbs Y).length]
 (.ret (.tup [.fs (nats .u64 (limbs (X / Y))) (limbs (X / Y)).length,.fs (nats .u64 (limbs (X % Y))) (limbs (X % Y)).length])):=by
 have hΓ:=zg zds (zh (P:=Tryz.prog))
 refine PCall.walk (rs:=[.tmp 4,.tmp 5]) [0,1,4,5,6,7,8,9,10,11,12,13,14,18,39,49,50,51,74,75,76] [] mixed (hΓ) (zfD) call179 Tryz.func179 rfl Tryz.ntmps179 rfl (by kernel_rfl) (by simp) (by simp [push_cast]) ?_
 simp (disch:=first|assumption|(push_cast<;>omega)|omega) only [go_sem]
 refine AXc.introP (fun h1=>?_) (fun h1=>?_)
 ·have h2:X<Y:=by
   rw [zbI]at h1
   split at h1
   ·assumption
   ·split at h1<;>omega
  rw [Nat.div_eq_of_lt h2,Nat.mod_eq_of_lt h2]
  simp only [go_sem,zaA]
 ·have h2:Y≤X:=by
   rw [zbI]at h1
   split at h1<;>omega
  obtain⟨n,hn⟩:∃ n,n=(limbs Y).length:=⟨_,rfl⟩
  have hyl:=zbX hY
  rw [←hn]at hyl
  have hyt:=getD_lt (zC Y) (n - 1)
  obtain⟨k,hk⟩:∃ k,k=1000000000 / ((limbs Y).getD (n - 1) 0+1):=⟨_,rfl⟩
  obtain⟨k0,k1,k2⟩:=norm_len hn hY hk
  have hkI:(1000000000:Int) / (((limbs Y).getD (n - 1) 0:Nat)+1)=(k:Int):=by rw [hk,Int.natCast_ediv];rfl
  have hn0:0<n:=by
   rcases Nat.eq_zero_or_pos n with h0|h0
   ·rw [h0]at hn;exact absurd (limbs_nil.1 (List.eq_nil_of_length_eq_zero hn.symm)) hY
   ·exact h0
  have hm0:0<(limbs X).length:=by
   rcases Nat.eq_zero_or_pos (limbs X).length with h0|h0
   ·have:=limbs_nil.1 (List.eq_nil_of_length_eq_zero h0);omega
   ·exact h0
  obtain⟨m,hm⟩:∃ m,m=(limbs X).length+1:=⟨_,rfl⟩
  have hnm:n<m:=by refine Nat.lt_of_le_of_lt ?_ (show (limbs X).length<m by omega);rw [hn];refine Nat.le_of_not_lt fun hlt=>?_;have:=zaI hlt;omega
  have hstart:=DivInv.start hm0 hm hn hY h2 k1 k0 k2 hnm
  have hS1:ΔD 207 [.fs (nats .u64 (limbs X)) (limbs X).length,.int .u64 k] ⟨[],0⟩=some ⟨True,.sl 0 0 (limbs (X*k)).length 1 none,⟨[(0,.cells (nats .u64 (digs m (X*k))))],1⟩,[],[]⟩:=by rw [hm];exact zhw X k (by omega) k1 [] 0 rfl
  have hS2:∀ B,ΔD 207 [.fs (nats .u64 (limbs Y)) n,.int .u64 k] ⟨[(0,.cells B)],1⟩=some ⟨True,.sl 1 0 n 1 none,⟨[(1,.cells (nats .u64 (digs (n+1) (Y*k)))),(0,.cells B)],2⟩,[],[]⟩:=fun B=>by have:=zhw Y k (by omega) k1 [(0,.cells B)] 1 rfl;rw [k2, ←hn]at this;exact this
  obtain⟨m0,hm0'⟩:∃ m0,m0=(limbs (X*k)).length:=⟨_,rfl⟩
  have hXk:=ze1 (X*k) m (by rw [hm];exact zgl k1)
  have hle1:m0≤m:=by rw [hm0',hm];exact zgl k1
  have hle2:m≤m0+1:=by rw [hm0',hm];refine Nat.add_le_add_right (Nat.le_of_not_lt fun hlt=>?_) 1;have h3:=zaI hlt;have h4:X≤X*k:=Nat.le_mul_of_pos_right _ k0;omega
  simp (disch:=first|assumption|(push_cast<;>omega)|omega) only [go_sem, ←hn,hkI,hS1,hS2, ←hm0']
  refine⟨⟨by omega,by omega⟩,by omega,by omega,?_⟩
  refine AXs.loop mixed (hΓ) (zfD) (fun e:Nat=>[(0,.fs (nats .u64 (limbs X)) (limbs X).length),(6,.int .i64 n),(7,.int .u64 k),(8,.sl 0 0 (m0+e) 1 none),(9,.sl 1 0 n 1 none)]) (fun _=>⟨[(1,.cells (nats .u64 (digs (n+1) (Y*k)))),(0,.cells (nats .u64 (digs m (X*k))))],2⟩) (fun e=>m0+e≤m) (fun e=>m - (m0+e)) 0 (by kernel_rfl) hle1 (Sub.of0 [] rfl rfl ?_ ?_) ?_
  ·simp only [go_sem]
  ·simp only [go_sem]
  rintro e he
  simp (disch:=first|assumption|(push_cast<;>omega)|omega) only [go_sem]
  refine AXc.introP (fun h3=>?_) (fun h3=>?_)
  ·have he0:e=0:=by omega
   subst he0
   have hm1:m=m0+1:=by omega
   have hdl:=zc2 m (X*k)
   have hcat:List.take m0 (digs m (X*k))++[0]=digs m (X*k):=by rw [hXk, ←hm0',List.take_left' hm0'.symm,hm1,Nat.add_sub_cancel_left];rfl
   simp (disch:=first|assumption|(push_cast<;>omega)|omega) only [go_sem]
   refine⟨⟨by omega,by omega,by omega⟩,?_⟩
   refine zo 1 (by omega) (by omega) (Sub.of0 [(0,3)] rfl rfl ?_ ?_)
   ·simp only [go_sem]
   ·simp only [go_sem]
    rw [show ([V.int .u64 0]:List V)=nats .u64 [0]from rfl]
    conv=>rhs;rw [←hcat]
    simp [nats]
  ·have hme:m0+e=m:=by omega
   have hln:=zc2 m (X*k)
   have hlv:=zc2 (n+1) (Y*k)
   have hYk:=ze1 (Y*k) (n+1) (by omega)
   rw [k2,show n+1 - n=1 by omega]at hYk
   rw [hme]
   simp (disch:=first|assumption|(push_cast<;>omega)|omega) only [go_sem]
   refine AXa.fz [1] rfl rfl rfl (env':=[(6,.int .i64 n),(7,.int .u64 k),(8,.sl 0 0 m 1 none),(9,.fs (nats .u64 (limbs (Y*k))) n)]) (bs':=[(0,.cells (nats .u64 (digs m (X*k))))]) (n':=2) ?_ ?_ ?_
   ·simp only [go_sem]
    refine⟨.inl ⟨by simp,rfl⟩,.inr ?_⟩
    exact FrzF.slp (by simp) rfl (by omega) (by rw [zbU,hlv];omega) (by rw [List.drop_zero,Nat.mul_one,zb3,hYk,List.take_left' (by rw [k2])]) (zaa _ _)
   ·simp only [go_sem]
    simp
   refine AXa.go mixed (hΓ) (zfD) (by kernel_rfl) ?_
   simp (disch:=first|assumption|(push_cast<;>omega)|omega) only [go_sem,znX,zoy]
   refine⟨⟨by omega,by omega,by omega,by omega⟩,?_⟩
   have hvt:=zbX (n:=Y*k) (by have:=Nat.mul_pos (Nat.pos_of_ne_zero hY) k0;omega)
   have okV:=zC (Y*k)
   have hfin:∀ q u,DivInv (X*k) (limbs (Y*k)) m 0 q u→zaf q=limbs (X / Y)∧zaf u=limbs (X % Y*k):=fun q u h=>by have:=h.done;rw [zB,Nat.mul_div_mul_right _ _ k0,Nat.mul_mod_mul_right]at this;exact this
   generalize limbs (Y*k)=VV at*
   subst k2
   refine AXs.loop mixed (hΓ) (zfD) (fun p:Nat×List Nat×List Nat=>[(4,.sl 2 0 (m - VV.length) 1 (some (m - VV.length))),(6,.int .i64 VV.length),(7,.int .u64 k),(8,.sl 0 0 m 1 none),(9,.fs (nats .u64 VV) VV.length),(49,.int .i64 (m - VV.length:Nat)),(50,.int .i64 p.1)]) (fun p=>⟨[(2,.cells (nats .u64 p.2.1)),(0,.cells (nats .u64 p.2.2))],3⟩)
    (fun p=>p.1≤m - VV.length∧DivInv (X*k) VV m (m - VV.length - p.1) p.2.1 p.2.2) (fun p=>m - VV.length - p.1) (0,List.replicate (m - VV.length) 0,digs m (X*k)) (by kernel_rfl) ⟨Nat.zero_le _,hstart⟩ (Sub.of0 [] rfl rfl ?_ ?_) ?_
   ·simp only [go_sem]
   ·simp only [go_sem]
   rintro⟨i,q,u⟩ ⟨hi,hinv⟩
   dsimp only at hi hinv ⊢
   have lu:=hinv.lu
   have lq:=hinv.lq
   simp (disch:=first|assumption|(push_cast<;>omega)|omega) only [go_sem]
   refine AXc.introP (fun h4=>?_) (fun h4=>?_)
   ·obtain⟨a,ha⟩:∃ a,a=m - VV.length - 1 - i:=⟨_,rfl⟩
    rw [show m - VV.length - i=a+1 by omega]at hinv
    obtain⟨hdig,_,_⟩:=hinv.segm okV hn0 (Nat.pos_of_ne_zero hvt) (by omega)
    have hstep:=hinv.step okV hn0 (Nat.pos_of_ne_zero hvt) (by omega)
    have hai:((m - VV.length:Nat):Int) - 1 - (i:Int)=(a:Int):=by omega
    have hD:ΔD 208 [.sl 0 a (a+VV.length+1 - a) 1 none,.fs (nats .u64 VV) VV.length] ⟨[(2,.cells (nats .u64 q)),(0,.cells (nats .u64 u))],3⟩=
     some ⟨True,.int .u64 (valL (seg u a VV.length) / valL VV:Nat),⟨[(2,.cells (nats .u64 q)),(0,.cells (nats .u64 (mid u a (VV.length+1) (digs (VV.length+1) (valL (seg u a VV.length) % valL VV)))))],3⟩,[0],[0]⟩:=by
     rw [show a+VV.length+1 - a=VV.length+1 by omega]
     exact dgC_eq 0 a none u VV ⟨[(2,.cells (nats .u64 q)),(0,.cells (nats .u64 u))],3⟩ rfl hdig (by omega) hinv.ou (by omega) (zbq rfl)
    generalize valL (seg u a VV.length) / valL VV=dd at*
    generalize mid u a (VV.length+1) (digs (VV.length+1) (valL (seg u a VV.length) % valL VV))=u' at*
    simp (disch:=first|assumption|(push_cast<;>omega)|omega) only [go_sem,hai,hD]
    refine⟨⟨by omega,by omega,by omega⟩,⟨by omega,by omega⟩,by omega,?_⟩
    refine zo (i+1,q.set a dd,u') ⟨by dsimp only;omega,?_⟩ (by dsimp only;omega) (Sub.of0 [] rfl rfl ?_ ?_)
    ·dsimp only
     rw [show m - VV.length - (i+1)=a by omega]
     exact hstep
    ·simp only [go_sem]
     simp
    ·simp only [go_sem]
   ·have hie:i=m - VV.length:=by omega
    subst hie
    rw [Nat.sub_self]at hinv
    obtain⟨e1,e2⟩:=hfin q u hinv
    have oq:=hinv.oq
    have ou:=hinv.ou
    have hT:∀ Bq,ΔD 153 [.sl 0 0 m 1 none] ⟨[(2,.cells Bq),(0,.cells (nats .u64 u))],3⟩=some ⟨True,.sl 0 0 (limbs (X % Y*k)).length 1 none,⟨[(2,.cells Bq),(0,.cells (nats .u64 u))],3⟩,[0],[]⟩:=fun Bq=>by have:=zfr 0 m none u [(2,.cells Bq),(0,.cells (nats .u64 u))] 3 rfl (by omega) (by omega) rfl;rw [List.take_of_length_le (by omega),e2]at this;exact this
    simp (disch:=first|assumption|(push_cast<;>omega)|omega) only [go_sem]
    refine AXa.go mixed (hΓ) (zfD) (by kernel_rfl) ?_
    simp (disch:=first|assumption|(push_cast<;>omega)|omega) only [go_sem,hT]
    have hu:u=limbs (X % Y*k)++List.replicate (m - (limbs (X % Y*k)).length) 0:=by
     have h5:=ze0 ou;have h6:valL u=X % Y*k:=zbM (by rw [←zaN ou,e2]);rw [lu,h6]at h5;rw [←ze1 _ _ ?_]
     ·exact h5
     ·rw [←e2, ←lu];exact zea u
    have hlr:(limbs (X % Y*k)).length≤1000:=by have:=congrArg List.length hu;rw [List.length_append]at this;omega
    have hrd:=fun r c=>rem_done (z:=X % Y) (r:=r) (c:=c) k0
    have hrs:=zs9 (r0:=limbs (X % Y*k)) k0 (zC _)
    clear hT e2 ou hinv
    generalize limbs (X % Y*k)=r0 at*
    generalize List.replicate (m - r0.length) 0=z at*
    subst hu
    refine AXs.loop mixed (hΓ) (zfD) (fun p:Nat×List Nat×Nat=>[(4,.sl 2 0 (m - VV.length) 1 (some (m - VV.length))),(5,.sl 0 0 r0.length 1 none),(7,.int .u64 k),(12,.int .u64 p.2.2),(74,.int .i64 r0.length),(75,.int .i64 p.1)]) (fun p=>⟨[(2,.cells (nats .u64 q)),(0,.cells (nats .u64 (p.2.1++z)))],3⟩)
     (fun p=>p.1≤r0.length∧zkq k r0 (r0.length - p.1) p.2.1 p.2.2) (fun p=>r0.length - p.1) (0,r0,0) (by kernel_rfl) ⟨Nat.zero_le _,hrs⟩ (Sub.of0 [] rfl rfl ?_ ?_) ?_
    ·simp only [go_sem]
    ·simp only [go_sem]
    rintro⟨i,r,c⟩ ⟨hi,hr⟩
    dsimp only at hi hr ⊢
    have lr:=hr.1
    simp (disch:=first|assumption|(push_cast<;>omega)|omega) only [go_sem]
    refine AXc.introP (fun h4=>?_) (fun h4=>?_)
    ·obtain⟨e,he⟩:∃ e,e=r0.length - 1 - i:=⟨_,rfl⟩
     rw [show r0.length - i=e+1 by omega]at hr
     obtain⟨hst,hb⟩:=rem_step k1 (by omega) hr
     have hei:((r0.length:Nat):Int) - 1 - (i:Int)=(e:Int):=by omega
     have hg:(r++z).getD e 0=r.getD e 0:=by rw [List.getD_eq_getElem?_getD,List.getElem?_append_left (by omega),List.getD_eq_getElem?_getD]
     have hset:∀ d,(r++z).set e d=r.set e d++z:=fun d=>List.set_append_left _ _ (by omega)
     obtain⟨R9,hR9⟩:∃ R9,R9=c*1000000000:=⟨_,rfl⟩
     have hR:(c:Int)*1000000000=(R9:Int):=by omega
     obtain⟨T,hT⟩:∃ T,T=R9+r.getD e 0:=⟨_,rfl⟩
     have hT':(R9:Int)+((r.getD e 0:Nat):Int)=(T:Int):=by omega
     rw [←hR9, ←hT]at hst hb
     have hdv:(T:Int) / (k:Int)=((T / k:Nat):Int):=(Int.natCast_ediv ..).symm
     have hmd:(T:Int) % (k:Int)=((T % k:Nat):Int):=(Int.natCast_emod ..).symm
     have hdk:T / k≤T:=Nat.div_le_self ..
     have hmk:T % k≤T:=Nat.mod_le ..
     have lrz:(r++z).length=r.length+z.length:=List.length_append
     generalize T / k=td at*
     generalize T % k=tm at*
     simp (disch:=first|assumption|(push_cast<;>omega)|omega) only [go_sem,hei,hg,hR,hT',hdv,hmd]
     refine⟨⟨by omega,by omega⟩,by omega,by omega,by omega,⟨by omega,by omega⟩,by omega,AXk.intro (by kernel_rfl) ?_⟩
     simp (disch:=first|assumption|(push_cast<;>omega)|omega) only [go_sem]
     refine zo (i+1,r.set e td,tm) ⟨by dsimp only;omega,?_⟩ (by dsimp only;omega) (Sub.of0 [] rfl rfl ?_ ?_)
     ·dsimp only
      rw [show r0.length - (i+1)=e by omega]
      exact hst
     ·simp only [go_sem]
      simp
     ·simp only [go_sem]
      rw [hset]
    ·have hie:i=r0.length:=by omega
     subst hie
     rw [Nat.sub_self]at hr
     have e2:=hrd r c hr
     simp (disch:=first|assumption|(push_cast<;>omega)|omega) only [go_sem]
     refine AXa.go mixed (hΓ) (zfD) (by kernel_rfl) ?_
     have hT1:ΔD 153 [.sl 2 0 (m - VV.length) 1 (some (m - VV.length))] ⟨[(2,.cells (nats .u64 q)),(0,.cells (nats .u64 (r++z)))],3⟩=some ⟨True,.sl 2 0 (limbs (X / Y)).length 1 none,⟨[(2,.cells (nats .u64 q)),(0,.cells (nats .u64 (r++z)))],3⟩,[2],[]⟩:=by have:=zfr 2 (m - VV.length) (some (m - VV.length)) q [(2,.cells (nats .u64 q)),(0,.cells (nats .u64 (r++z)))] 3 rfl (by omega) (by omega) rfl;rw [List.take_of_length_le (by omega),e1]at this;exact this
     have hT2:ΔD 153 [.sl 0 0 r0.length 1 none] ⟨[(2,.cells (nats .u64 q)),(0,.cells (nats .u64 (r++z)))],3⟩=some ⟨True,.sl 0 0 (limbs (X % Y)).length 1 none,⟨[(2,.cells (nats .u64 q)),(0,.cells (nats .u64 (r++z)))],3⟩,[0],[]⟩:=by have:=zfr 0 r0.length none (r++z) [(2,.cells (nats .u64 q)),(0,.cells (nats .u64 (r++z)))] 3 rfl (by rw [List.length_append];omega) (by rw [List.length_append]at *; omega) rfl;rw [List.take_left' (by omega),e2]at this;exact this
     simp (disch:=first|assumption|(push_cast<;>omega)|omega) only [go_sem,hT1,hT2]
     have p1:=zfM q
     have p2:=zfM r
     have p3:=zea q
     have p4:=zea r
     rw [e1]at p1 p3
     rw [e2]at p2 p4
     refine⟨Frz.slp rfl rfl (by rw [zbU];omega) ?_ (zaa _ _),Frz.slp rfl rfl (by rw [zbU,List.length_append];omega) ?_ (zaa _ _)⟩
     ·rw [List.drop_zero,Nat.mul_one,zb3,p1]
     ·rw [List.drop_zero,Nat.mul_one,zb3,List.take_append_of_le_length p4,p2]
end Go.Proofs
