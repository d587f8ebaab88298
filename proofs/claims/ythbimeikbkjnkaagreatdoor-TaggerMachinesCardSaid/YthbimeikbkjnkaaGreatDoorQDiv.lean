/- Long division of blocks. -/
import Derived.Test.YthbimeikbkjnkaaGreatDoorPlMid
import Derived.Laws.Externs
import Derived.Lib.Builder
set_option linter.all false
set_option maxHeartbeats 16000000
set_option maxRecDepth 100000
namespace Go.Proofs
open Tryz Go.Ab Go.Pl
def DigR(args:List V)(H:Hp)(r:AR):Prop:=
 ∃(b o:Nat) (kc:Option Nat) (l v:List Nat),args=[.sl b o (v.length+1) 1 kc,.fs (nats .u64 v) v.length]∧H.get b=some (.cells (nats .u64 l))∧DigOK (seg l o v.length) v∧o+v.length+1≤l.length∧okL l∧l.length≤1000000∧
  (∀ b x,H.get b=some x→b<H.next)∧
  r=⟨True,.int .u64 (valL (seg l o v.length) / valL v:Nat),H.put b (.cells (nats .u64 (mid l o (v.length+1) (digs (v.length+1) (valL (seg l o v.length) % valL v))))),[b],[b]⟩
theorem dgC_ok:∀ args H r,DigR args H r→HCall prog 208 args H r:=by
 rintro args H r ⟨b,o,kc,l,v,rfl,hb,hd,h1,h2,h3,hk,rfl⟩;refine HCall.putS (zzB l v o hd h1 h2 h3) (.int _ _) (zat _ _) (zat _ _) b _ H ⟨rfl,fun i x y hx hy=>?_⟩ hb hk;match i with
 |0=>cases hx;cases hy;exact .sl (π:=fun i=>[b].getD i 0) (b:=0) (YaB.2 rfl) (.inl rfl)
 |1=>cases hx;cases hy;exact .same (.fs (zat _ _))
 |i+2=>simp at hx
theorem dgC_uniq {args:List V}{H:Hp}{r r':AR}(h:DigR args H r)(h':DigR args H r'):r'=r:=by obtain⟨b,o,kc,l,v,rfl,hb,_,_,_,_,_,rfl⟩:=h;obtain⟨b',o',kc',l',v',he,hb',_,_,_,_,_,rfl⟩:=h';simp only [Yu,V.sl.injEq,V.fs.injEq,Yam,Yan]at he;obtain⟨⟨rfl,rfl,_,rfl⟩,e,_⟩:=he;obtain rfl:=zax e;rw [hb]at hb';simp only [Yv,Blk.cells.injEq]at hb';rw [zax hb']
theorem dgC_eq(b o:Nat)(kc:Option Nat)(l v:List Nat)(H:Hp)(hb:H.get b=some (.cells (nats .u64 l)))(hd:DigOK (seg l o v.length) v)(h1:o+v.length+1≤l.length)(h2:okL l)(h3:l.length≤1000000)(hk:∀ b x,H.get b=some x→b<H.next):
 conD DigR [.sl b o (v.length+1) 1 kc,.fs (nats .u64 v) v.length] H=some ⟨True,.int .u64 (valL (seg l o v.length) / valL v:Nat),H.put b (.cells (nats .u64 (mid l o (v.length+1) (digs (v.length+1) (valL (seg l o v.length) % valL v))))),[b],[b]⟩:=by
 have hr:DigR [.sl b o (v.length+1) 1 kc,.fs (nats .u64 v) v.length] H ⟨True,.int .u64 (valL (seg l o v.length) / valL v:Nat),H.put b (.cells (nats .u64 (mid l o (v.length+1) (digs (v.length+1) (valL (seg l o v.length) % valL v))))),[b],[b]⟩:=⟨b,o,kc,l,v,rfl,hb,hd,h1,h2,h3,hk,rfl⟩
 exact zaK hr fun _ h'=>dgC_uniq hr h'
noncomputable def ΔD:FuncId→List V→Hp→Option AR:=zcR 207 (conD zgq) (zcR 208 (conD DigR) (zcR 153 (conD zqJ) noΔ))
theorem zhd:zba prog ΔD:=zay (zaZ zs9) (zay (zaZ dgC_ok) (zay (zaZ zqZ) zg))
theorem zh1 {X k:Nat}(hk:k<1000000000):(limbs (X*k)).length≤(limbs X).length+1:=by apply zaN;have h1:=valL_lt (zF X);rw [zC]at h1;rw [YP];exact Nat.mul_lt_mul'' h1 hk
theorem zfi:∀ l:List Nat,(zav l).length≤l.length
 |[]=>Ye _
 |d::l=>by
  have:=zfi l;unfold zav;split
  ·simp
  ·simpa using this
theorem zhn:∀ l:List Nat,l.take (zav l).length=zav l
 |[]=>rfl
 |d::l=>by
  have:=zhn l;unfold zav;split
  ·simp
  ·simpa using this
theorem zgh(x m:Nat)(h:(limbs x).length≤m):digs m x=limbs x++List.replicate (m - (limbs x).length) 0:=by
 have ok:okL (limbs x++List.replicate (m - (limbs x).length) 0):=okL_append.2 ⟨zF x,fun d hd=>by have:=Ybe hd;omega⟩;have hz:∀ j,valL (List.replicate j 0)=0:=by
  intro j;induction j with
  |zero=>rfl
  |succ j ih=>rw [Ybs,valL,ih]
 have:=zgg ok;rw [zaI,hz,YY,Y5,zC,Yi,Yw]at this;rw [this,Nat.add_sub_cancel' h]
theorem zzA(X Y:Nat)(hX:(limbs X).length≤500)(hYl:(limbs Y).length≤500)(hY:Y≠0):PCall prog 179 [.fs (nats .u64 (limbs X)) (limbs X).length,.fs (nats .u64 (limbs Y)) (limbs Y).length]
 (.ret (.tup [.fs (nats .u64 (limbs (X / Y))) (limbs (X / Y)).length,.fs (nats .u64 (limbs (X % Y))) (limbs (X % Y)).length])):=by
 have hΓ:=zf zep (zh (P:=prog))
 refine PCall.wD (rs:=[.tmp 4,.tmp 5]) [0,1,4,5,6,7,8,9,10,11,12,13,14,18,39,49,50,51,74,75,76] [] mixed (hΓ) (zhd) call179 func179 rfl ntmps179 rfl ?_
 simp (disch:=first|exact Zq|fail) only [go_sem]
 refine AXc.introP (fun h1=>?_) (fun h1=>?_)
 ·have h2:X<Y:=by
   rw [zbF]at h1
   split at h1
   ·assumption
   ·split at h1<;>omega
  rw [Ycc h2,Ycd h2]
  simp only [go_sem,zaL]
 ·have h2:Y≤X:=by
   rw [zbF]at h1
   split at h1<;>omega
  obtain⟨n,hn⟩:∃ n,n=(limbs Y).length:=⟨_,rfl⟩
  have hyl:=zcz hY
  rw [←hn]at hyl
  have hyt:=getD_lt (zF Y) (n - 1)
  obtain⟨k,hk⟩:∃ k,k=1000000000 / ((limbs Y).getD (n - 1) 0+1):=⟨_,rfl⟩
  obtain⟨k0,k1,k2⟩:=norm_len hn hY hk
  have hkI:(1000000000:Int) / (((limbs Y).getD (n - 1) 0:Nat)+1)=(k:Int):=by rw [hk,Int.natCast_ediv];rfl
  have hn0:0<n:=by
   rcases YD n with h0|h0
   ·rw [h0]at hn;exact absurd (limbs_nil.1 (Yr hn.symm)) hY
   ·exact h0
  have hm0:0<(limbs X).length:=by
   rcases YD (limbs X).length with h0|h0
   ·have:=limbs_nil.1 (Yr h0);omega
   ·exact h0
  obtain⟨m,hm⟩:∃ m,m=(limbs X).length+1:=⟨_,rfl⟩
  have hnm:n<m:=by refine YaN ?_ (show (limbs X).length<m by omega);rw [hn];refine Y6 fun hlt=>?_;have:=zaY hlt;omega
  have hstart:=DivInv.start hm0 hm hn hY h2 k1 k0 k2 hnm
  have hS1:ΔD 207 [.fs (nats .u64 (limbs X)) (limbs X).length,.int .u64 k] ⟨[],0⟩=some ⟨True,.sl 0 0 (limbs (X*k)).length 1 none,⟨[(0,.cells (nats .u64 (digs m (X*k))))],1⟩,[],[]⟩:=by rw [hm];exact zjn X k (by omega) k1 [] 0 rfl
  have hS2:∀ B,ΔD 207 [.fs (nats .u64 (limbs Y)) n,.int .u64 k] ⟨[(0,.cells B)],1⟩=some ⟨True,.sl 1 0 n 1 none,⟨[(1,.cells (nats .u64 (digs (n+1) (Y*k)))),(0,.cells B)],2⟩,[],[]⟩:=fun B=>by have:=zjn Y k (by omega) k1 [(0,.cells B)] 1 rfl;rw [k2, ←hn]at this;exact this
  obtain⟨m0,hm0'⟩:∃ m0,m0=(limbs (X*k)).length:=⟨_,rfl⟩
  have hXk:=zgh (X*k) m (by rw [hm];exact zh1 k1)
  have hle1:m0≤m:=by rw [hm0',hm];exact zh1 k1
  have hle2:m≤m0+1:=by rw [hm0',hm];refine Nat.add_le_add_right (Y6 fun hlt=>?_) 1;have h3:=zaY hlt;have h4:X≤X*k:=Nat.le_mul_of_pos_right _ k0;omega
  simp (disch:=first|exact Zq|fail) only [go_sem, ←hn,hkI,hS1,hS2, ←hm0']
  refine⟨⟨by omega,by omega⟩,by omega,by omega,?_⟩
  refine AXs.loop mixed (hΓ) (zhd) (fun e:Nat=>[(0,.fs (nats .u64 (limbs X)) (limbs X).length),(6,.int .i64 n),(7,.int .u64 k),(8,.sl 0 0 (m0+e) 1 none),(9,.sl 1 0 n 1 none)]) (fun _=>⟨[(1,.cells (nats .u64 (digs (n+1) (Y*k)))),(0,.cells (nats .u64 (digs m (X*k))))],2⟩) (fun e=>m0+e≤m) (fun e=>m - (m0+e)) 0 (by kernel_rfl) hle1 (Sub.of0 [] rfl rfl ?_ ?_) ?_
  ·simp only [go_sem]
  ·simp only [go_sem]
  rintro e he
  simp (disch:=first|exact Zq|fail) only [go_sem]
  refine AXc.introP (fun h3=>?_) (fun h3=>?_)
  ·have he0:e=0:=by omega
   subst he0
   have hm1:m=m0+1:=by omega
   have hdl:=zdL m (X*k)
   have hcat:List.take m0 (digs m (X*k))++[0]=digs m (X*k):=by rw [hXk, ←hm0',YcE hm0'.symm,hm1,YbV];rfl
   simp (disch:=first|exact Zq|fail) only [go_sem]
   refine⟨⟨by omega,by omega,by omega⟩,?_⟩
   refine zi 1 (by omega) (by omega) (Sub.of0 [(0,3)] rfl rfl ?_ ?_)
   ·simp only [go_sem]
   ·simp only [go_sem]
    rw [show ([V.int .u64 0]:List V)=nats .u64 [0]from rfl]
    conv=>rhs;rw [←hcat]
    simp [nats]
  ·have hme:m0+e=m:=by omega
   have hln:=zdL m (X*k)
   have hlv:=zdL (n+1) (Y*k)
   have hYk:=zgh (Y*k) (n+1) (by omega)
   rw [k2,show n+1 - n=1 by omega]at hYk
   rw [hme]
   simp (disch:=first|exact Zq|fail) only [go_sem]
   refine AXa.fz [1] rfl rfl rfl (env':=[(6,.int .i64 n),(7,.int .u64 k),(8,.sl 0 0 m 1 none),(9,.fs (nats .u64 (limbs (Y*k))) n)]) (bs':=[(0,.cells (nats .u64 (digs m (X*k))))]) (n':=2) ?_ ?_ ?_
   ·simp only [go_sem]
    refine⟨.inl ⟨by simp,rfl⟩,.inr ?_⟩
    exact FrzF.slp (by simp) rfl (by omega) (by rw [zK,hlv];omega) (by rw [Y2,Yap,zbR,hYk,YcE (by rw [k2])]) (zat _ _)
   ·simp only [go_sem]
    simp
   refine AXa.go mixed (hΓ) (zhd) (by kernel_rfl) ?_
   simp (disch:=first|exact Zq|fail) only [go_sem,zq0,zlt]
   refine⟨⟨by omega,by omega,by omega,by omega⟩,?_⟩
   have hvt:=zcz (n:=Y*k) (by have:=Ya1 (Yb4 hY) k0;omega)
   have okV:=zF (Y*k)
   have hfin:∀ q u,DivInv (X*k) (limbs (Y*k)) m 0 q u→zav q=limbs (X / Y)∧zav u=limbs (X % Y*k):=fun q u h=>by have:=h.done;rw [zC,Nat.mul_div_mul_right _ _ k0,Nat.mul_mod_mul_right]at this;exact this
   generalize limbs (Y*k)=VV at*
   subst k2
   refine AXs.loop mixed (hΓ) (zhd) (fun p:Nat×List Nat×List Nat=>[(4,.sl 2 0 (m - VV.length) 1 (some (m - VV.length))),(6,.int .i64 VV.length),(7,.int .u64 k),(8,.sl 0 0 m 1 none),(9,.fs (nats .u64 VV) VV.length),(49,.int .i64 (m - VV.length:Nat)),(50,.int .i64 p.1)]) (fun p=>⟨[(2,.cells (nats .u64 p.2.1)),(0,.cells (nats .u64 p.2.2))],3⟩)
    (fun p=>p.1≤m - VV.length∧DivInv (X*k) VV m (m - VV.length - p.1) p.2.1 p.2.2) (fun p=>m - VV.length - p.1) (0,List.replicate (m - VV.length) 0,digs m (X*k)) (by kernel_rfl) ⟨Yk _,hstart⟩ (Sub.of0 [] rfl rfl ?_ ?_) ?_
   ·simp only [go_sem]
   ·simp only [go_sem]
   rintro⟨i,q,u⟩ ⟨hi,hinv⟩
   dsimp only at hi hinv ⊢
   have lu:=hinv.lu
   have lq:=hinv.lq
   simp (disch:=first|exact Zq|fail) only [go_sem]
   refine AXc.introP (fun h4=>?_) (fun h4=>?_)
   ·obtain⟨a,ha⟩:∃ a,a=m - VV.length - 1 - i:=⟨_,rfl⟩
    rw [show m - VV.length - i=a+1 by omega]at hinv
    obtain⟨hdig,_,_⟩:=hinv.segm okV hn0 (Yb4 hvt) (by omega)
    have hstep:=hinv.step okV hn0 (Yb4 hvt) (by omega)
    have hai:((m - VV.length:Nat):Int) - 1 - (i:Int)=(a:Int):=by omega
    have hD:ΔD 208 [.sl 0 a (a+VV.length+1 - a) 1 none,.fs (nats .u64 VV) VV.length] ⟨[(2,.cells (nats .u64 q)),(0,.cells (nats .u64 u))],3⟩=
     some ⟨True,.int .u64 (valL (seg u a VV.length) / valL VV:Nat),⟨[(2,.cells (nats .u64 q)),(0,.cells (nats .u64 (mid u a (VV.length+1) (digs (VV.length+1) (valL (seg u a VV.length) % valL VV)))))],3⟩,[0],[0]⟩:=by
     rw [show a+VV.length+1 - a=VV.length+1 by omega]
     exact dgC_eq 0 a none u VV ⟨[(2,.cells (nats .u64 q)),(0,.cells (nats .u64 u))],3⟩ rfl hdig (by omega) hinv.ou (by omega) (zbB rfl)
    generalize valL (seg u a VV.length) / valL VV=dd at*
    generalize mid u a (VV.length+1) (digs (VV.length+1) (valL (seg u a VV.length) % valL VV))=u' at*
    simp (disch:=first|exact Zq|fail) only [go_sem,hai,hD]
    refine⟨⟨by omega,by omega,by omega⟩,⟨by omega,by omega⟩,by omega,?_⟩
    refine zi (i+1,q.set a dd,u') ⟨by dsimp only;omega,?_⟩ (by dsimp only;omega) (Sub.of0 [] rfl rfl ?_ ?_)
    ·dsimp only
     rw [show m - VV.length - (i+1)=a by omega]
     exact hstep
    ·simp only [go_sem]
     simp
    ·simp only [go_sem]
   ·have hie:i=m - VV.length:=by omega
    subst hie
    rw [Ybp]at hinv
    obtain⟨e1,e2⟩:=hfin q u hinv
    have oq:=hinv.oq
    have ou:=hinv.ou
    have hT:∀ Bq,ΔD 153 [.sl 0 0 m 1 none] ⟨[(2,.cells Bq),(0,.cells (nats .u64 u))],3⟩=some ⟨True,.sl 0 0 (limbs (X % Y*k)).length 1 none,⟨[(2,.cells Bq),(0,.cells (nats .u64 u))],3⟩,[0],[]⟩:=fun Bq=>by have:=zgP 0 m none u [(2,.cells Bq),(0,.cells (nats .u64 u))] 3 rfl (by omega) (by omega) rfl;rw [Yj (by omega),e2]at this;exact this
    simp (disch:=first|exact Zq|fail) only [go_sem]
    refine AXa.go mixed (hΓ) (zhd) (by kernel_rfl) ?_
    simp (disch:=first|exact Zq|fail) only [go_sem,hT]
    have hu:u=limbs (X % Y*k)++List.replicate (m - (limbs (X % Y*k)).length) 0:=by
     have h5:=zgg ou;have h6:valL u=X % Y*k:=zck (by rw [←za5 ou,e2]);rw [lu,h6]at h5;rw [←zgh _ _ ?_]
     ·exact h5
     ·rw [←e2, ←lu];exact zfi u
    have hlr:(limbs (X % Y*k)).length≤1000:=by have:=Ya6 List.length hu;rw [Yi]at this;omega
    have hrd:=fun r c=>rem_done (z:=X % Y) (r:=r) (c:=c) k0
    have hrs:=zxm (r0:=limbs (X % Y*k)) k0 (zF _)
    clear hT e2 ou hinv
    generalize limbs (X % Y*k)=r0 at*
    generalize List.replicate (m - r0.length) 0=z at*
    subst hu
    refine AXs.loop mixed (hΓ) (zhd) (fun p:Nat×List Nat×Nat=>[(4,.sl 2 0 (m - VV.length) 1 (some (m - VV.length))),(5,.sl 0 0 r0.length 1 none),(7,.int .u64 k),(12,.int .u64 p.2.2),(74,.int .i64 r0.length),(75,.int .i64 p.1)]) (fun p=>⟨[(2,.cells (nats .u64 q)),(0,.cells (nats .u64 (p.2.1++z)))],3⟩)
     (fun p=>p.1≤r0.length∧zmy k r0 (r0.length - p.1) p.2.1 p.2.2) (fun p=>r0.length - p.1) (0,r0,0) (by kernel_rfl) ⟨Yk _,hrs⟩ (Sub.of0 [] rfl rfl ?_ ?_) ?_
    ·simp only [go_sem]
    ·simp only [go_sem]
    rintro⟨i,r,c⟩ ⟨hi,hr⟩
    dsimp only at hi hr ⊢
    have lr:=hr.1
    simp (disch:=first|exact Zq|fail) only [go_sem]
    refine AXc.introP (fun h4=>?_) (fun h4=>?_)
    ·obtain⟨e,he⟩:∃ e,e=r0.length - 1 - i:=⟨_,rfl⟩
     rw [show r0.length - i=e+1 by omega]at hr
     obtain⟨hst,hb⟩:=rem_step k1 (by omega) hr
     have hei:((r0.length:Nat):Int) - 1 - (i:Int)=(e:Int):=by omega
     have hg:(r++z).getD e 0=r.getD e 0:=by rw [Ya,Y4 (by omega),Ya]
     have hset:∀ d,(r++z).set e d=r.set e d++z:=fun d=>List.set_append_left _ _ (by omega)
     obtain⟨R9,hR9⟩:∃ R9,R9=c*1000000000:=⟨_,rfl⟩
     have hR:(c:Int)*1000000000=(R9:Int):=by omega
     obtain⟨T,hT⟩:∃ T,T=R9+r.getD e 0:=⟨_,rfl⟩
     have hT':(R9:Int)+((r.getD e 0:Nat):Int)=(T:Int):=by omega
     rw [←hR9, ←hT]at hst hb
     have hdv:(T:Int) / (k:Int)=((T / k:Nat):Int):=(Int.natCast_ediv ..).symm
     have hmd:(T:Int) % (k:Int)=((T % k:Nat):Int):=(Int.natCast_emod ..).symm
     have hdk:T / k≤T:=Yck ..
     have hmk:T % k≤T:=Nat.mod_le ..
     have lrz:(r++z).length=r.length+z.length:=Yi
     generalize T / k=td at*
     generalize T % k=tm at*
     simp (disch:=first|exact Zq|fail) only [go_sem,hei,hg,hR,hT',hdv,hmd]
     refine⟨⟨by omega,by omega⟩,by omega,by omega,by omega,⟨by omega,by omega⟩,by omega,AXk.intro (by kernel_rfl) ?_⟩
     simp (disch:=first|exact Zq|fail) only [go_sem]
     refine zi (i+1,r.set e td,tm) ⟨by dsimp only;omega,?_⟩ (by dsimp only;omega) (Sub.of0 [] rfl rfl ?_ ?_)
     ·dsimp only
      rw [show r0.length - (i+1)=e by omega]
      exact hst
     ·simp only [go_sem]
      simp
     ·simp only [go_sem]
      rw [hset]
    ·have hie:i=r0.length:=by omega
     subst hie
     rw [Ybp]at hr
     have e2:=hrd r c hr
     simp (disch:=first|exact Zq|fail) only [go_sem]
     refine AXa.go mixed (hΓ) (zhd) (by kernel_rfl) ?_
     have hT1:ΔD 153 [.sl 2 0 (m - VV.length) 1 (some (m - VV.length))] ⟨[(2,.cells (nats .u64 q)),(0,.cells (nats .u64 (r++z)))],3⟩=some ⟨True,.sl 2 0 (limbs (X / Y)).length 1 none,⟨[(2,.cells (nats .u64 q)),(0,.cells (nats .u64 (r++z)))],3⟩,[2],[]⟩:=by have:=zgP 2 (m - VV.length) (some (m - VV.length)) q [(2,.cells (nats .u64 q)),(0,.cells (nats .u64 (r++z)))] 3 rfl (by omega) (by omega) rfl;rw [Yj (by omega),e1]at this;exact this
     have hT2:ΔD 153 [.sl 0 0 r0.length 1 none] ⟨[(2,.cells (nats .u64 q)),(0,.cells (nats .u64 (r++z)))],3⟩=some ⟨True,.sl 0 0 (limbs (X % Y)).length 1 none,⟨[(2,.cells (nats .u64 q)),(0,.cells (nats .u64 (r++z)))],3⟩,[0],[]⟩:=by have:=zgP 0 r0.length none (r++z) [(2,.cells (nats .u64 q)),(0,.cells (nats .u64 (r++z)))] 3 rfl (by rw [Yi];omega) (by rw [Yi]at *; omega) rfl;rw [YcE (by omega),e2]at this;exact this
     simp (disch:=first|exact Zq|fail) only [go_sem,hT1,hT2]
     have p1:=zhn q
     have p2:=zhn r
     have p3:=zfi q
     have p4:=zfi r
     rw [e1]at p1 p3
     rw [e2]at p2 p4
     refine⟨Frz.slp rfl rfl (by rw [zK];omega) ?_ (zat _ _),Frz.slp rfl rfl (by rw [zK,Yi];omega) ?_ (zat _ _)⟩
     ·rw [Y2,Yap,zbR,p1]
     ·rw [Y2,Yap,zbR,List.take_append_of_le_length p4,p2]
theorem ztP(x:V)(H:Hp):HCall prog 247 [x] H ⟨True,x,H,[],[]⟩:=by
 refine⟨fun _=>Stat.refl H,fun _ g base D w vs hgl hI hvs hpw hD=>?_⟩;obtain⟨v,hv,rv⟩:=hpw 0 _ rfl;have hvs':vs=#[v]:=by
  apply YaE;intro i;match i with
  |0=>exact hv
  |i+1=>rw [YC (by simp at hvs;omega),YC (by simp)]
 subst hvs';refine .inr ⟨v,w,?_,g,v,rfl,rv,Post.refl hI rfl rfl (.refl _) rfl⟩;rw [run_callFunc_extern (fn:=Tryz.f247) func247 (by kernel_rfl) rfl rfl (e:=Go.Extern.AbiNoEscape.same) (by kernel_rfl),Lib.run_noEscape];rfl
def zCm(args:List V)(H:Hp)(r:AR):Prop:=∃ x,args=[x]∧r=⟨True,x,H,[],[]⟩
theorem zx6:∀ args H r,zCm args H r→HCall prog 247 args H r:=by rintro args H r ⟨x,rfl,rfl⟩;exact ztP x H
noncomputable def ΔN:FuncId→List V→Hp→Option AR:=zcR 247 (conD zCm) noΔ
theorem ΔN_ok:zba prog ΔN:=zay (zaZ zx6) zg
@[go_sem] theorem ΔN_eq(x:V)(H:Hp):ΔN 247 [x] H=some ⟨True,x,H,[],[]⟩:=zaK (R:=zCm) ⟨x,rfl,rfl⟩ fun r' ⟨x',e1,e2⟩=>by simp at e1;rw [e2,e1]
theorem ptr_e1(H:Hp):aBin prog .eql 222 .nilP .nilP H=⟨True,.bool true,H,[],[]⟩:=by kernel_rfl
theorem ptr_e2(H:Hp):aBin prog .eql 222 (.ptr 0 0) .nilP H=⟨True,.bool false,H,[],[]⟩:=by kernel_rfl
theorem ptr_e3(H:Hp):aBin prog .neq 222 (.ptr 0 0) (.ptr 0 0) H=⟨True,.bool false,H,[],[]⟩:=by kernel_rfl
theorem ptr_c1(a b:V):zdn prog 222 255 (.ptr 0 0) ⟨[(0,.ty 224 [a,b])],1⟩=⟨True,.ptr 0 0,⟨[(0,.ty 224 [a,b])],1⟩,[0],[]⟩:=by kernel_rfl
theorem ptr_c2(a b:V):zdn prog 255 222 (.ptr 0 0) ⟨[(0,.ty 224 [a,b])],1⟩=⟨True,.ptr 0 0,⟨[(0,.ty 224 [a,b])],1⟩,[0],[]⟩:=by kernel_rfl
theorem zmu {π:Nat→Nat}{N:Nat→Prop}(t:TypeId)(cs cs':List V):RnB π N (.ty t cs) (.ty t cs')↔LRel (Rn π N) cs cs':=⟨fun h=>by cases h;assumption,.ty⟩
attribute [local go_sem] zmu
theorem zbI(l:List UInt8):∀ x∈l.map zbD,Pure x:=fun x h=>by obtain⟨c,_,rfl⟩:=Yab.1 h;exact .int _ _
theorem zu9:NCall prog 230 [.ptr 0 0] [.ty 224 [.nilP,.nilS]] [0] (.tup []) ⟨[(0,.ty 224 [.ptr 0 0,.nilS])],1⟩:=by refine NCall.walkW (rs:=[]) [0,6,19] [] 1 [0] mixed (zh) (ΔN_ok) zz6 func230 rfl ntmps230 rfl (by kernel_rfl) (by simp) (by simp) (by simp) (by simp) ?_;simp only [go_sem,ptr_e1,ptr_e2,ptr_e3,ptr_c1,ptr_c2];exact⟨rfl,[],Sub.of [] rfl (by simp only [go_sem]) (by simp only [go_sem]) (by decide) (fun b hb hw=>absurd (YaB.1 hb) (by simpa using hw))⟩
theorem zu8(n:Nat)(l:List UInt8):NCall prog 230 [.ptr 0 0] [.ty 224 [.ptr 0 0,.sl 1 0 n 1 none],.ty 5 (l.map zbD)] [] (.tup []) ⟨[(0,.ty 224 [.ptr 0 0,.sl 1 0 n 1 none]),(1,.ty 5 (l.map zbD))],2⟩:=by
 refine NCall.walkW (rs:=[]) [0,6,19] [] 2 [] mixed (zh) (ΔN_ok) zz6 func230 rfl ntmps230 rfl (by kernel_rfl) (by simp) (by simp) (by simp) (by simp) ?_;simp only [go_sem,ptr_e1,ptr_e2,ptr_e3];refine⟨[],Sub.of [] rfl (by simp only [go_sem]) ?_ (by decide) (fun b hb hw=>?_)⟩
 ·simp only [go_sem];exact zt (zbI l)
 ·match b,hb with
  |0,_=>rfl
  |1,_=>rfl
def bl0:Blk:=.ty 224 [.nilP,.nilS]
def bl1(b c n:Nat):Blk:=.ty 224 [.ptr b 0,.sl c 0 n 1 none]
def bly(l:List UInt8):Blk:=.ty 5 (l.map zbD)
theorem zfQ {π:Nat→Nat}{N:Nat→Prop}{b c n:Nat}(hb:N b)(hc:N c):RnB π N (bl1 b c n) (bl1 (π b) (π c) n):=by
 refine .ty ⟨rfl,fun i x y hx hy=>?_⟩;match i with
 |0=>cases hx;cases hy;exact .ptr hb
 |1=>cases hx;cases hy;exact .sl hc (.inl rfl)
 |i+2=>simp at hx
theorem zgA {π:Nat→Nat}{N:Nat→Prop}(l:List UInt8):RnB π N (bly l) (bly l):=.ty (zt (zbI l))
theorem zdz {π:Nat→Nat}{N:Nat→Prop}{b c:Nat}{r:List V}(hb:N b)(hc:π b=c)(hr:∀ x∈r,Pure x):LRel (Rn π N) (.ptr b 0::r) (.ptr c 0::r):=by
 subst hc;refine⟨rfl,fun i x y hx hy=>?_⟩;match i with
 |0=>cases hx;cases hy;exact .ptr hb
 |i+1=>simp only [Yas]at hx hy;rw [hx]at hy;cases hy;exact .same (hr _ (YR hx))
theorem idx1 {b c:Nat}(h:b≠c):List.idxOf c [b,c]=1:=by
 have h1:(b==c)=false:=by simpa using h
 rw [List.idxOf_cons,h1];simp
def CcR(args:List V)(H:Hp)(r:AR):Prop:=∃ b,args=[.ptr b 0]∧(∀ b x,H.get b=some x→b<H.next)∧
 ((H.get b=some bl0∧r=⟨True,.tup [],H.put b (.ty 224 [.ptr b 0,.nilS]),[b],[b]⟩)∨
  ∃ c n l,b≠c∧H.get b=some (bl1 b c n)∧H.get c=some (bly l)∧r=⟨True,.tup [],H,[b,c],[]⟩)
theorem ccR_ok:∀ args H r,CcR args H r→HCall prog 230 args H r:=by
 rintro args H r ⟨b,rfl,hk,h⟩;rcases h with⟨hb,rfl⟩|⟨c,n,l,hne,hb,hc,rfl⟩
 ·have tc:zU [b] H.next b=0:=by unfold zU;rw [Yf (hk b _ hb)];simp
  refine HCall.of zu9 [b] _ (.tup []) H (H.put b (.ty 224 [.ptr b 0,.nilS])) rfl (by simp) (zdz (by decide) rfl (by simp)) (fun i x hx=>?_) (.same (.tup (by simp))) rfl (fun b' x' hx'=>?_) (fun b' hb' hw=>?_)
  ·match i with
   |0=>cases hx;exact⟨b,_,rfl,hb,.ty (zt (by simp [zhK,zeb]))⟩
   |i+1=>simp at hx
  ·rw [Hp.get_put]at hx';split at hx'
   ·rename_i he;subst he;rw [hb]at hx';cases hx';refine .inr ⟨.inl (by simp),.ty 224 [.ptr 0 0,.nilS],?_,.ty ?_⟩
    ·rw [tc];rfl
    ·exact zdz (.inl (by simp)) tc (by simp [zeb])
   ·rename_i he;exact .inl ⟨hk b' _ hx',by simpa using he,hx'⟩
  ·rw [Hp.get_put,Yd (by simpa using hw)]
 ·have tb:zU [b,c] H.next b=0:=by unfold zU;rw [Yf (hk b _ hb)];simp
  have tc:zU [b,c] H.next c=1:=by unfold zU;rw [Yf (hk c _ hc)];exact idx1 hne
  refine HCall.of (zu8 n l) [b,c] _ (.tup []) H H rfl (by simpa using hne) (zdz (Ybi _) rfl (by simp)) (fun i x hx=>?_) (.same (.tup (by simp))) rfl (fun b' x' hx'=>?_) (fun b' hb' hw=>rfl)
  ·match i with
   |0=>cases hx;exact⟨b,_,rfl,hb,zfQ (π:=fun i=>[b,c].getD i 0) (b:=0) (c:=1) (Ybi _) (Yat _)⟩
   |1=>cases hx;exact⟨c,_,rfl,hc,zgA l⟩
   |i+2=>simp at hx
  ·by_cases h1:b'=b
   ·subst h1;rw [hb]at hx';cases hx';refine .inr ⟨.inl (by simp),bl1 0 1 n,?_,?_⟩
    ·rw [tb];rfl
    ·have:=zfQ (π:=zU [b',c] H.next) (N:=fun b=>b∈[b',c]∨(H.next≤b∧b<H.next)) (b:=b') (c:=c) (n:=n) (.inl (by simp)) (.inl (by simp));rwa [tb,tc]at this
   ·by_cases h2:b'=c
    ·subst h2;rw [hc]at hx';cases hx';refine .inr ⟨.inl (by simp),bly l,?_,zgA l⟩;rw [tc];rfl
    ·exact .inl ⟨hk b' _ hx',by simp [h1,h2],hx'⟩
theorem zrT {args:List V}{H:Hp}{r r':AR}(h:CcR args H r)(h':CcR args H r'):r'=r:=by
 obtain⟨b,rfl,_,h⟩:=h;obtain⟨b',he,_,h'⟩:=h';simp only [Yu,V.ptr.injEq,Yam]at he;subst he;rcases h with⟨hb,rfl⟩|⟨c,n,l,hne,hb,hc,rfl⟩
 ·rcases h' with⟨hb',rfl⟩|⟨c',n',l',hne',hb',hc',rfl⟩
  ·rfl
  ·rw [hb]at hb';simp [bl0,bl1]at hb'
 ·rcases h' with⟨hb',rfl⟩|⟨c',n',l',hne',hb',hc',rfl⟩
  ·rw [hb]at hb';simp [bl0,bl1]at hb'
  ·rw [hb]at hb';simp [bl1]at hb';rw [hb'.1]
noncomputable def ΔC:FuncId→List V→Hp→Option AR:=zcR 230 (conD CcR) noΔ
theorem zv7:zba prog ΔC:=zay (zaZ ccR_ok) zg
theorem ΔC_A:ΔC 230 [.ptr 0 0] ⟨[(0,.ty 224 [.nilP,.nilS])],1⟩=some ⟨True,.tup [],⟨[(0,.ty 224 [.ptr 0 0,.nilS])],1⟩,[0],[0]⟩:=by have hr:CcR [.ptr 0 0] ⟨[(0,.ty 224 [.nilP,.nilS])],1⟩ ⟨True,.tup [],⟨[(0,.ty 224 [.ptr 0 0,.nilS])],1⟩,[0],[0]⟩:=⟨0,rfl,zbB rfl,.inl ⟨rfl,rfl⟩⟩;exact zaK hr fun _ h'=>zrT hr h'
theorem ΔC_B(n:Nat)(l:List UInt8):ΔC 230 [.ptr 0 0] ⟨[(0,.ty 224 [.ptr 0 0,.sl 1 0 n 1 none]),(1,.ty 5 (l.map zbD))],2⟩=some ⟨True,.tup [],⟨[(0,.ty 224 [.ptr 0 0,.sl 1 0 n 1 none]),(1,.ty 5 (l.map zbD))],2⟩,[0,1],[]⟩:=by have hr:CcR [.ptr 0 0] ⟨[(0,.ty 224 [.ptr 0 0,.sl 1 0 n 1 none]),(1,.ty 5 (l.map zbD))],2⟩ ⟨True,.tup [],⟨[(0,.ty 224 [.ptr 0 0,.sl 1 0 n 1 none]),(1,.ty 5 (l.map zbD))],2⟩,[0,1],[]⟩:=⟨0,rfl,zbB rfl,.inr ⟨1,n,l,by decide,rfl,rfl,rfl⟩⟩;exact zaK hr fun _ h'=>zrT hr h'
theorem zht {C:Cfg}{P:Program}{env:Env}{H:Hp}(x:Operand)(ts:Array TypeId):step1 C P env (.call { callee:=.builtin .unsafeSliceData,args:=⟨[x]⟩,argTypes:=ts }) H=mkSR false (ev env x).cond (XR.ar H (zbb (ev env x).val H)) H:=zZ rfl (by simp [Op.operands,Call.operands,needs]) rfl
theorem zkj {C:Cfg}{P:Program}{env:Env}{H:Hp}(x y:Operand)(t u:TypeId):step1 C P env (.call { callee:=.builtin .unsafeString,args:=⟨[x,y]⟩,argTypes:=⟨[t,u]⟩ }) H=mkSR false ((ev env x).cond∧(ev env y).cond) (XR.ar H (zcm P t (ev env x).val (ev env y).val H)) H:=zZ rfl (by simp [Op.operands,Call.operands,needs]) rfl
theorem zml(b off n sz:Nat)(kc:Option Nat)(H:Hp)(h:0<n):XR.ar H (zbb (.sl b off n sz kc) H)=⟨True,.ptr b off,H,[],[]⟩:=by obtain⟨m,rfl⟩:∃ m,n=m+1:=⟨n - 1,by omega⟩;rfl
theorem bytes_of(l:List UInt8):bytesOf (l.map zbD)=some l:=by
 induction l with
 |nil=>rfl
 |cons c l ih=>rw [YM];show (bytesOf (l.map zbD)).map (UInt8.ofNat ((c.toNat:Int)).toNat::·)=_;rw [ih];simp
theorem zsM(l:List UInt8)(h:0<l.length)(h2:l.length≤1000000)(x:Blk):∀ P,P=prog→zcm P 244 (.ptr 1 0) (.int .i64 l.length) ⟨[(0,x),(1,.ty 5 (l.map zbD))],2⟩=some ⟨.str l,⟨[(0,x)],2⟩,[1],[1]⟩:=by
 rintro _ rfl;have hp:prog.underlying 244=some (.pointer 5):=by kernel_rfl
 have hs:zJ prog 5=some 1:=by kernel_rfl
 have hn:decide ((l.length:Int)=0)=false:=by rw [YS];omega
 have ht:(l.map zbD).take (l.length:Int).toNat=l.map zbD:=by rw [YcN,Yj (by simp)]
 have hb:∀ x∈l.map zbD,isByte x=true:=fun x hx=>by obtain⟨c,_,rfl⟩:=Yab.1 hx;have:=c.toNat_lt;simp only [zbD,isByte,Yc,Yh];exact⟨by omega,by omega⟩
 have hc:decide (True∧zJ prog 5=some 1∧0<(l.length:Int)∧(l.length:Int)≤((l.map zbD).length:Nat)∧(l.length:Int)≤9223372036854775807∧(l.map zbD).all isByte=true)=true:=by rw [Yh];exact⟨trivial,hs,by omega,by simp,by omega,Yg.2 hb⟩
 have hg:Hp.get ⟨[(0,x),(1,.ty 5 (l.map zbD))],2⟩ 1=some (.ty 5 (l.map zbD)):=rfl;unfold zcm;simp only [hn,hp,hg,ht,bytes_of];rw [hc];rfl
theorem zoc(l:List UInt8):(l.map zbD).all V.one=true:=Yg.2 fun x hx=>by obtain⟨c,_,rfl⟩:=Yab.1 hx;rfl
theorem writeA(s:List UInt8)(hs:s.length≤1000000)(h0:¬s.length=0):NCall prog 210 [.ptr 0 0,.str s] [.ty 224 [.nilP,.nilS]] [0] (.tup [.int .i64 s.length,.nilI]) ⟨[(0,.ty 224 [.ptr 0 0,.sl 1 0 s.length 1 none]),(1,.ty 5 (s.map zbD))],2⟩:=by
 refine NCall.walkW (rs:=[.tmp 4,.tmp 5]) [0,1,4,5] [] 1 [0] mixed (zh) (zv7) zqb func210 rfl ntmps210 rfl (by kernel_rfl) (by simp) (by simp) (by simp) (by simp) ?_;simp (disch:=first|assumption|(push_cast<;>omega)|rfl|omega) only [go_sem,ΔC_A,h0];refine⟨rfl,⟨by omega,by omega,zoc s⟩,rfl,[(4,.int .i64 s.length),(5,.nilI)],Sub.of [] rfl (by simp only [go_sem]) ?_ (by decide) (fun b hb hw=>absurd (YaB.1 hb) (by simpa using hw)),rfl⟩;simp only [go_sem];exact zt (zbI s)
theorem writeB(l s:List UInt8)(hl:l.length≤1000000)(hs:s.length≤1000000)(h0:¬s.length=0):NCall prog 210 [.ptr 0 0,.str s] [.ty 224 [.ptr 0 0,.sl 1 0 l.length 1 none],.ty 5 (l.map zbD)] [0,1] (.tup [.int .i64 s.length,.nilI]) ⟨[(0,.ty 224 [.ptr 0 0,.sl 2 0 (l.length+s.length) 1 none]),(2,.ty 5 ((l++s).map zbD))],3⟩:=by
 refine NCall.walkW (rs:=[.tmp 4,.tmp 5]) [0,1,4,5] [] 2 [0,1] mixed (zh) (zv7) zqb func210 rfl ntmps210 rfl (by kernel_rfl) (by simp) (by simp) (by simp) (by simp) ?_;simp (disch:=first|assumption|(push_cast<;>omega)|rfl|omega) only [go_sem,ΔC_B,h0];refine⟨⟨by simp,by omega,by omega,zoc s⟩,rfl,rfl,[(4,.int .i64 s.length),(5,.nilI)],Sub.of [] rfl (by simp only [go_sem]) ?_ (by decide) (fun b hb hw=>absurd hb (by match b with|0=>simp at hw|1=>simp at hw|b+2=>simp)),rfl⟩;simp only [go_sem];rw [Yj (by simp), ←Yau];exact zt (zbI _)
theorem writeE(l:List UInt8)(hl:l.length≤1000000):NCall prog 210 [.ptr 0 0,.str []] [.ty 224 [.ptr 0 0,.sl 1 0 l.length 1 none],.ty 5 (l.map zbD)] [0,1] (.tup [.int .i64 0,.nilI]) ⟨[(0,.ty 224 [.ptr 0 0,.sl 1 0 l.length 1 none]),(1,.ty 5 (l.map zbD))],2⟩:=by
 refine NCall.walkW (rs:=[.tmp 4,.tmp 5]) [0,1,4,5] [] 2 [0,1] mixed (zh) (zv7) zqb func210 rfl ntmps210 rfl (by kernel_rfl) (by simp) (by simp) (by simp) (by simp) ?_;simp (disch:=first|assumption|(push_cast<;>omega)|rfl|omega) only [go_sem,ΔC_B];refine⟨rfl,[(4,.int .i64 0),(5,.nilI)],Sub.of [] rfl (by simp only [go_sem]) ?_ (by decide) (fun b hb hw=>absurd hb (by match b with|0=>simp at hw|1=>simp at hw|b+2=>simp)),rfl⟩;simp only [go_sem];exact zt (zbI l)
theorem stringB(l:List UInt8)(hl:l.length≤1000000)(h0:0<l.length):NCall prog 212 [.ptr 0 0] [.ty 224 [.ptr 0 0,.sl 1 0 l.length 1 none],.ty 5 (l.map zbD)] [1] (.str l) ⟨[(0,.ty 224 [.ptr 0 0,.sl 1 0 l.length 1 none])],2⟩:=by
 refine NCall.walkW (rs:=[.tmp 2]) [0,2] [] 2 [1] mixed (zh) (zg) call212 func212 rfl ntmps212 rfl (by kernel_rfl) (by simp) (by simp) (by simp) (by simp) ?_;have hu:=fun x=>zsM l h0 hl x prog rfl;simp (disch:=first|assumption|(push_cast<;>omega)|rfl|omega) only [go_sem,zht,zkj,zml,hu];refine⟨rfl,AXk.intro (by kernel_rfl) ?_⟩;simp (disch:=first|assumption|(push_cast<;>omega)|rfl|omega) only [go_sem];refine⟨[(2,.str l)],Sub.of [] rfl (by simp only [go_sem]) (by simp only [go_sem]) (by decide) (fun b hb hw=>?_),rfl⟩;match b,hb with
 |0,_=>rfl
 |1,_=>simp at hw
def WsR(args:List V)(H:Hp)(r:AR):Prop:=∃ b s,args=[.ptr b 0,.str s]∧s.length≤1000000∧(∀ b x,H.get b=some x→b<H.next)∧
 ((H.get b=some bl0∧s≠[]∧r=⟨True,.tup [.int .i64 s.length,.nilI],(H.put b (bl1 b H.next s.length)).new (bly s),[b],[b]⟩)∨
  ∃ c l,b≠c∧l.length≤1000000∧H.get b=some (bl1 b c l.length)∧H.get c=some (bly l)∧
   ((s≠[]∧r=⟨True,.tup [.int .i64 s.length,.nilI],((H.put b (bl1 b H.next (l.length+s.length))).kill c).new (bly (l++s)),[b,c],[b,c]⟩)∨
    (s=[]∧r=⟨True,.tup [.int .i64 0,.nilI],H,[b,c],[b,c]⟩)))
theorem wsR_ok:∀ args H r,WsR args H r→HCall prog 210 args H r:=by
 rintro args H r ⟨b,s,rfl,hs,hk,h⟩;rcases h with⟨hb,h0,rfl⟩|⟨c,l,hne,hl,hb,hc,h⟩
 ·have tb:zU [b] H.next b=0:=by unfold zU;rw [Yf (hk b _ hb)];simp
  have tn:zU [b] H.next H.next=1:=by unfold zU;rw [Yd (by omega)];simp
  have hbn:=hk b _ hb;refine HCall.of (writeA s hs (fun e=>h0 (Yr e))) [b] _ (.tup [.int .i64 s.length,.nilI]) H ((H.put b (bl1 b H.next s.length)).new (bly s)) rfl (by simp) (zdz (Ybi _) rfl (by simp [zT])) (fun i x hx=>?_) (.same (.tup (by simp [zcd,zhL]))) (by show H.next+1+1=H.next+2;omega) (fun b' x' hx'=>?_) (fun b' hb' hw=>?_)
  ·match i with
   |0=>cases hx;exact⟨b,_,rfl,hb,.ty (zt (by simp [zhK,zeb]))⟩
   |i+1=>simp at hx
  ·rw [Hp.get_new]at hx';split at hx'
   ·rename_i he;have he':b'=H.next:=he;subst he';cases hx';refine .inr ⟨.inr ⟨Ye _,Yat _⟩,bly s,?_,zgA s⟩;rw [tn];rfl
   ·rw [Hp.get_put]at hx';split at hx'
    ·rename_i he;subst he;rw [hb]at hx';cases hx';refine .inr ⟨.inl (by simp),bl1 0 1 s.length,?_,?_⟩
     ·rw [tb];rfl
     ·have:=zfQ (π:=zU [b'] H.next) (N:=fun b=>b∈[b']∨(H.next≤b∧b<H.next+1)) (b:=b') (c:=H.next) (n:=s.length) (.inl (by simp)) (.inr ⟨Ye _,Yat _⟩);rwa [tb,tn]at this
    ·rename_i he;exact .inl ⟨hk b' _ hx',by simpa using he,hx'⟩
  ·have h1:b'≠H.next:=by omega
   rw [Hp.get_new,Yd (show ¬b'=(H.put b _).next from h1),Hp.get_put,Yd (by simpa using hw)]
 have tb:zU [b,c] H.next b=0:=by unfold zU;rw [Yf (hk b _ hb)];simp
 have tc:zU [b,c] H.next c=1:=by unfold zU;rw [Yf (hk c _ hc)];exact idx1 hne
 have tn:zU [b,c] H.next H.next=2:=by unfold zU;rw [Yd (by omega)];simp
 rcases h with⟨h0,rfl⟩|⟨rfl,rfl⟩
 ·refine HCall.of (writeB l s hl hs (fun e=>h0 (Yr e))) [b,c] _ (.tup [.int .i64 s.length,.nilI]) H (((H.put b (bl1 b H.next (l.length+s.length))).kill c).new (bly (l++s))) rfl (by simpa using hne) (zdz (Ybi _) rfl (by simp [zT])) (fun i x hx=>?_) (.same (.tup (by simp [zcd,zhL]))) (by show H.next+1+2=H.next+3;omega) (fun b' x' hx'=>?_) (fun b' hb' hw=>?_)
  ·match i with
   |0=>cases hx;exact⟨b,_,rfl,hb,zfQ (π:=fun i=>[b,c].getD i 0) (b:=0) (c:=1) (Ybi _) (Yat _)⟩
   |1=>cases hx;exact⟨c,_,rfl,hc,zgA l⟩
   |i+2=>simp at hx
  ·rw [Hp.get_new]at hx';split at hx'
   ·rename_i he;have he':b'=H.next:=he;subst he';cases hx';refine .inr ⟨.inr ⟨Ye _,Yat _⟩,bly (l++s),?_,zgA _⟩;rw [tn];rfl
   ·rw [Hp.get_kill]at hx';split at hx'
    ·cases hx'
    ·rename_i hec;rw [Hp.get_put]at hx';split at hx'
     ·rename_i he;subst he;rw [hb]at hx';cases hx';refine .inr ⟨.inl (by simp),bl1 0 2 (l.length+s.length),?_,?_⟩
      ·rw [tb];rfl
      ·have:=zfQ (π:=zU [b',c] H.next) (N:=fun b=>b∈[b',c]∨(H.next≤b∧b<H.next+1)) (b:=b') (c:=H.next) (n:=l.length+s.length) (.inl (by simp)) (.inr ⟨Ye _,Yat _⟩);rwa [tb,tn]at this
     ·rename_i he;exact .inl ⟨hk b' _ hx',by simp [he,hec],hx'⟩
  ·have h1:b'≠H.next:=by omega
   have h2:b'≠b∧b'≠c:=by simpa using hw
   rw [Hp.get_new,Yd (show ¬b'=((H.put b _).kill c).next from h1),Hp.get_kill,Yd h2.2,Hp.get_put,Yd h2.1]
 ·refine HCall.of (writeE l hl) [b,c] _ (.tup [.int .i64 0,.nilI]) H H rfl (by simpa using hne) (zdz (Ybi _) rfl (by simp [zT])) (fun i x hx=>?_) (.same (.tup (by simp [zcd,zhL]))) rfl (fun b' x' hx'=>?_) (fun b' hb' hw=>rfl)
  ·match i with
   |0=>cases hx;exact⟨b,_,rfl,hb,zfQ (π:=fun i=>[b,c].getD i 0) (b:=0) (c:=1) (Ybi _) (Yat _)⟩
   |1=>cases hx;exact⟨c,_,rfl,hc,zgA l⟩
   |i+2=>simp at hx
  ·by_cases h1:b'=b
   ·subst h1;rw [hb]at hx';cases hx';refine .inr ⟨.inl (by simp),bl1 0 1 l.length,?_,?_⟩
    ·rw [tb];rfl
    ·have:=zfQ (π:=zU [b',c] H.next) (N:=fun b=>b∈[b',c]∨(H.next≤b∧b<H.next)) (b:=b') (c:=c) (n:=l.length) (.inl (by simp)) (.inl (by simp));rwa [tb,tc]at this
   ·by_cases h2:b'=c
    ·subst h2;rw [hc]at hx';cases hx';refine .inr ⟨.inl (by simp),bly l,?_,zgA l⟩;rw [tc];rfl
    ·exact .inl ⟨hk b' _ hx',by simp [h1,h2],hx'⟩
theorem ziw:∀ {l l':List UInt8},l.map zbD=l'.map zbD→l=l'
 |[],[],_=>rfl
 |[],_::_,h=>by simp at h
 |_::_,[],h=>by simp at h
 |a::l,b::l',h=>by
  simp only [YM,Yu]at h;have h1:=ziw h.2;have h2:(a.toNat:Int)=(b.toNat:Int):=by have:=h.1;simpa [zbD] using this
  have h3:a=b:=YaW.1 (by omega);rw [h1,h3]
theorem zgO {args:List V}{H:Hp}{r r':AR}(h:WsR args H r)(h':WsR args H r'):r'=r:=by
 obtain⟨b,s,rfl,_,_,h⟩:=h;obtain⟨b',s',he,_,_,h'⟩:=h';simp only [Yu,V.ptr.injEq,V.str.injEq,Yam]at he;obtain⟨rfl,rfl⟩:=he;rcases h with⟨hb,h0,rfl⟩|⟨c,l,hne,hl,hb,hc,h⟩
 ·rcases h' with⟨hb',h0',rfl⟩|⟨c',l',hne',hl',hb',hc',h'⟩
  ·rfl
  ·rw [hb]at hb';simp [bl0,bl1]at hb'
 ·rcases h' with⟨hb',h0',rfl⟩|⟨c',l',hne',hl',hb',hc',h'⟩
  ·rw [hb]at hb';simp [bl0,bl1]at hb'
  ·rw [hb]at hb';simp only [bl1,Yv,Blk.ty.injEq,Yu,V.sl.injEq,Yan,Yam]at hb';obtain⟨rfl,_⟩:=hb';rw [hc]at hc';simp only [bly,Yv,Blk.ty.injEq,Yan]at hc';obtain rfl:=ziw hc';rcases h with⟨h0,rfl⟩|⟨h0,rfl⟩
   ·rcases h' with⟨_,rfl⟩|⟨h1,rfl⟩
    ·rfl
    ·exact absurd h1 h0
   ·rcases h' with⟨h1,rfl⟩|⟨_,rfl⟩
    ·exact absurd h0 h1
    ·rfl
def StR(args:List V)(H:Hp)(r:AR):Prop:=∃ b c l,args=[.ptr b 0]∧(∀ b x,H.get b=some x→b<H.next)∧b≠c∧l.length≤1000000∧0<l.length∧H.get b=some (bl1 b c l.length)∧H.get c=some (bly l)∧
 r=⟨True,.str l,H.kill c,[b,c],[c]⟩
theorem stR_ok:∀ args H r,StR args H r→HCall prog 212 args H r:=by
 rintro args H r ⟨b,c,l,rfl,hk,hne,hl,h0,hb,hc,rfl⟩;have tb:zU [b,c] H.next b=0:=by unfold zU;rw [Yf (hk b _ hb)];simp
 have tc:zU [b,c] H.next c=1:=by unfold zU;rw [Yf (hk c _ hc)];exact idx1 hne
 refine HCall.of (stringB l hl h0) [b,c] _ (.str l) H (H.kill c) rfl (by simpa using hne) (zdz (Ybi _) rfl (by simp)) (fun i x hx=>?_) (.same (.str _)) rfl (fun b' x' hx'=>?_) (fun b' hb' hw=>?_)
 ·match i with
  |0=>cases hx;exact⟨b,_,rfl,hb,zfQ (π:=fun i=>[b,c].getD i 0) (b:=0) (c:=1) (Ybi _) (Yat _)⟩
  |1=>cases hx;exact⟨c,_,rfl,hc,zgA l⟩
  |i+2=>simp at hx
 ·rw [Hp.get_kill]at hx';split at hx'
  ·cases hx'
  ·rename_i hec;by_cases h1:b'=b
   ·subst h1;rw [hb]at hx';cases hx';refine .inr ⟨.inl (by simp),bl1 0 1 l.length,?_,?_⟩
    ·rw [tb];rfl
    ·have:=zfQ (π:=zU [b',c] H.next) (N:=fun b=>b∈[b',c]∨(H.next≤b∧b<H.next)) (b:=b') (c:=c) (n:=l.length) (.inl (by simp)) (.inl (by simp));rwa [tb,tc]at this
   ·exact .inl ⟨hk b' _ hx',by simp [h1,hec],hx'⟩
 ·have h2:b'≠c:=by simpa using hw
  rw [Hp.get_kill,Yd h2]
theorem stR_uniq {args:List V}{H:Hp}{r r':AR}(h:StR args H r)(h':StR args H r'):r'=r:=by obtain⟨b,c,l,rfl,_,_,_,_,hb,hc,rfl⟩:=h;obtain⟨b',c',l',he,_,_,_,_,hb',hc',rfl⟩:=h';simp only [Yu,V.ptr.injEq,Yam]at he;subst he;rw [hb]at hb';simp only [bl1,Yv,Blk.ty.injEq,Yu,V.sl.injEq,Yan,Yam]at hb';obtain⟨rfl,_⟩:=hb';rw [hc]at hc';simp only [bly,Yv,Blk.ty.injEq,Yan]at hc';obtain rfl:=ziw hc';rfl
noncomputable def ΔB:FuncId→List V→Hp→Option AR:=zcR 210 (conD WsR) (zcR 212 (conD StR) noΔ)
theorem zv8:zba prog ΔB:=zay (zaZ wsR_ok) (zay (zaZ stR_ok) zg)
theorem ΔB_0 {s:List UInt8}(hs:s.length≤1000000)(h0:s≠[]):ΔB 210 [.ptr 0 0,.str s] ⟨[(0,bl0)],1⟩=some ⟨True,.tup [.int .i64 s.length,.nilI],⟨[(1,bly s),(0,bl1 0 1 s.length)],2⟩,[0],[0]⟩:=by have hr:WsR [.ptr 0 0,.str s] ⟨[(0,bl0)],1⟩ ⟨True,.tup [.int .i64 s.length,.nilI],⟨[(1,bly s),(0,bl1 0 1 s.length)],2⟩,[0],[0]⟩:=⟨0,s,rfl,hs,zbB rfl,.inl ⟨rfl,h0,rfl⟩⟩;exact zaK hr fun _ h'=>zgO hr h'
theorem ΔB_1 {l s:List UInt8}(hl:l.length≤1000000)(hs:s.length≤1000000)(h0:s≠[]):ΔB 210 [.ptr 0 0,.str s] ⟨[(0,bl1 0 1 l.length),(1,bly l)],2⟩=some ⟨True,.tup [.int .i64 s.length,.nilI],⟨[(2,bly (l++s)),(0,bl1 0 2 (l.length+s.length))],3⟩,[0,1],[0,1]⟩:=by have hr:WsR [.ptr 0 0,.str s] ⟨[(0,bl1 0 1 l.length),(1,bly l)],2⟩ ⟨True,.tup [.int .i64 s.length,.nilI],⟨[(2,bly (l++s)),(0,bl1 0 2 (l.length+s.length))],3⟩,[0,1],[0,1]⟩:=⟨0,s,rfl,hs,zbB rfl,.inr ⟨1,l,by decide,hl,rfl,rfl,.inl ⟨h0,rfl⟩⟩⟩;exact zaK hr fun _ h'=>zgO hr h'
theorem ΔB_3 {l s:List UInt8}{n:Nat}(hn:n=l.length)(hl:l.length≤1000000)(hs:s.length≤1000000)(h0:s≠[]):ΔB 210 [.ptr 0 0,.str s] ⟨[(2,bly l),(0,bl1 0 2 n)],3⟩=some ⟨True,.tup [.int .i64 s.length,.nilI],⟨[(3,bly (l++s)),(0,bl1 0 3 (l.length+s.length))],4⟩,[0,2],[0,2]⟩:=by subst hn;have hr:WsR [.ptr 0 0,.str s] ⟨[(2,bly l),(0,bl1 0 2 l.length)],3⟩ ⟨True,.tup [.int .i64 s.length,.nilI],⟨[(3,bly (l++s)),(0,bl1 0 3 (l.length+s.length))],4⟩,[0,2],[0,2]⟩:=⟨0,s,rfl,hs,zbB rfl,.inr ⟨2,l,by decide,hl,rfl,rfl,.inl ⟨h0,rfl⟩⟩⟩;exact zaK hr fun _ h'=>zgO hr h'
theorem ΔB_e {l:List UInt8}(hl:l.length≤1000000):ΔB 210 [.ptr 0 0,.str []] ⟨[(0,bl1 0 1 l.length),(1,bly l)],2⟩=some ⟨True,.tup [.int .i64 0,.nilI],⟨[(0,bl1 0 1 l.length),(1,bly l)],2⟩,[0,1],[0,1]⟩:=by have hr:WsR [.ptr 0 0,.str []] ⟨[(0,bl1 0 1 l.length),(1,bly l)],2⟩ ⟨True,.tup [.int .i64 0,.nilI],⟨[(0,bl1 0 1 l.length),(1,bly l)],2⟩,[0,1],[0,1]⟩:=⟨0,[],rfl,by simp,zbB rfl,.inr ⟨1,l,by decide,hl,rfl,rfl,.inr ⟨rfl,rfl⟩⟩⟩;exact zaK hr fun _ h'=>zgO hr h'
theorem ΔB_s {l:List UInt8}(hl:l.length≤1000000)(h0:0<l.length):ΔB 212 [.ptr 0 0] ⟨[(0,bl1 0 1 l.length),(1,bly l)],2⟩=some ⟨True,.str l,⟨[(0,bl1 0 1 l.length)],2⟩,[0,1],[1]⟩:=by have hr:StR [.ptr 0 0] ⟨[(0,bl1 0 1 l.length),(1,bly l)],2⟩ ⟨True,.str l,⟨[(0,bl1 0 1 l.length)],2⟩,[0,1],[1]⟩:=⟨0,1,l,rfl,zbB rfl,by decide,hl,h0,rfl,rfl,rfl⟩;exact zaK hr fun _ h'=>stR_uniq hr h'
end Go.Proofs
