import Derived.Test.YtbdlfegfepggnaaGreatDoorPlEach
set_option linter.all false
set_option maxHeartbeats 16000000
set_option maxRecDepth 100000
noncomputable section
namespace Go.Proofs
open Tryz Go.Ab Go.Pl
def zbS(x y:Nat):cmpI (x:Int) (y:Int)=if x<y then -1 else if y<x then 1 else 0:=by simp only[cmpI,Int.ofNat_lt]
def zbW {x y:Nat}(h:limbs x=limbs y):x=y:=by rw[←zD x,h,zD]
def zon(x y:Nat)(hx:(limbs x).length≤1000)(hy:(limbs y).length≤1000):PCall prog 174 [.fs (nats .u64 (limbs x)) (limbs x).length,.fs (nats .u64 (limbs y)) (limbs y).length] (.ret (.int .i64 (cmpI x y))):=by
 have hΓ:=zf zkA (zf zmx (zh (P:=prog)));refine Xa (rs:=[.tmp 4]) [0,1,4,5,6,11,18,19,20,40] [] mixed (hΓ) (zg) call174 func174 rfl ntmps174 rfl ?_;simp only[go_sem];refine Xl (fun h1=>?_) (fun h1=>?_)
 ·simp only[go_sem];rw[zbS,zbS];by_cases h2:(limbs x).length<(limbs y).length
  ·have:=zaI h2;simp[h2,this]
  have h3:(limbs y).length<(limbs x).length:=Zo;have:=zaI h3;simp[h2,h3,this];omega
 have hlen:(limbs x).length=(limbs y).length:=Zo;have ox:=zI x;have oy:=zI y;have vx:=zD x;have vy:=zD y;generalize limbs x=l at*;generalize limbs y=r at*;subst vx vy;simp only[go_sem];refine AXs.loop mixed (hΓ) (zg) (fun i:Nat=>[(0,.fs (nats .u64 l) l.length),(1,.fs (nats .u64 r) r.length),(18,.int .i64 l.length),(19,.int .i64 i)]) (fun _=>⟨[],0⟩) (fun i=>i≤l.length∧∀j,l.length-i≤j→l.getD j 0=r.getD j 0) (fun i=>l.length-i) 0 Zk
  ⟨Yk _,fun j hj=>by rw[zbi _ _ _ Zo,zbi _ _ _ Zo]⟩ (Xb [] rfl rfl ?_ ?_) ?_
 ·simp only[go_sem]
 ·simp only[go_sem]
 rintro i ⟨hi,hd⟩;simp(disch:=try exact Zq)only[go_sem];refine Xc (fun h2=>?_) (fun h2=>?_)
 ·simp(disch:=try exact Zq)only[go_sem];repeat refine And.intro Zo ?_
  have hk:l.length-1-i<l.length:=Zo;have hup:∀j,l.length-1-i<j→l.getD j 0=r.getD j 0:=fun j hj=>hd j Zo;refine Xl (fun h3=>?_) (fun h3=>?_)
  ·simp only[go_sem];rw[zbS]at h3 ⊢;rw[zbS];by_cases h4:l.getD (l.length-1-i) 0<r.getD (l.length-1-i) 0
   ·have:=zfm ox hlen hk hup h4;simp only[h4,this,if_true]
   by_cases h5:r.getD (l.length-1-i) 0<l.getD (l.length-1-i) 0
   ·have:=zfm oy hlen.symm Zo (fun j hj=>(hup j hj).symm) h5;rw[Ye h4,Yi h5,Ye Zo,Yi this]
   exact absurd (by rw[Ye h4,Ye h5]) h3
  simp(disch:=try exact Zq)only[go_sem];refine zi (i+1) ⟨Zo,fun j hj=>?_⟩ Zo (Xb [] rfl rfl ?_ ?_)
  ·by_cases hje:j=l.length-1-i
   ·subst hje;simp only[cmpI]at h3;split at h3
    ·omega
    split at h3<;>omega
   exact hup j Zo
  ·simp only[go_sem];simp
  simp only[go_sem]
 have hie:i=l.length:=Zo;subst hie;simp only[go_sem];refine AXa.go mixed (hΓ) (zg) Zk ?_;simp only[go_sem];have:l=r:=zme hlen fun j=>hd j Zo;subst this;simp[cmpI]
def zmB:ZV:=zL (fun p:Nat×Nat=>[.fs (nats .u64 (limbs p.1)) (limbs p.1).length,.fs (nats .u64 (limbs p.2)) (limbs p.2).length]) (fun p=>(limbs p.1).length≤1000∧(limbs p.2).length≤1000) fun p=>.ret (.int .i64 (cmpI p.1 p.2))
def zjf {x y:Nat×Nat}(h:[V.fs (nats .u64 (limbs x.1)) (limbs x.1).length,.fs (nats .u64 (limbs x.2)) (limbs x.2).length]=[.fs (nats .u64 (limbs y.1)) (limbs y.1).length,.fs (nats .u64 (limbs y.2)) (limbs y.2).length]):x=y:=by simp at h;exact YaC (zbW (zaY h.1.1)) (zbW (zaY h.2.1))
def zmA(x y n m:Nat)(hn:n=(limbs x).length)(hm:m=(limbs y).length)(hx:(limbs x).length≤1000)(hy:(limbs y).length≤1000):zmB [.fs (nats .u64 (limbs x)) n,.fs (nats .u64 (limbs y)) m]=some (.ret (.int .i64 (cmpI x y))):=by subst hn hm;exact zo (pat:=fun p:Nat×Nat=>[V.fs (nats .u64 (limbs p.1)) (limbs p.1).length,.fs (nats .u64 (limbs p.2)) (limbs p.2).length]) (fun _ _ h=>zjf h) (x,y) ⟨hx,hy⟩
def zdP:ZC zmB 174:=zn fun p h=>zon p.1 p.2 h.1 h.2
attribute [go_sem] zmA
def zgz {a b c a' b' c':Nat}{r:ZA}(h:V.int .u64 a::.int .u64 b::.int .u64 c::r=V.int .u64 a'::.int .u64 b'::.int .u64 c'::r):(a,b,c)=(a',b',c'):=by simp at h;simp;omega
def cPlus1:ZV:=zL (fun p:Nat×Nat×Nat=>[.int .u64 p.1,.int .u64 p.2.1,.int .u64 p.2.2]) (fun p=>p.1<1000000000∧p.2.1<1000000000∧p.2.2≤1) fun p=>.ret (.tup [.int .u64 (zbh p.1 p.2.1 p.2.2).1,.int .u64 (zbh p.1 p.2.1 p.2.2).2])
def zxt:ZC cPlus1 182:=zn fun p h=>plus1_ok p.1 p.2.1 p.2.2 h.1 h.2.1 h.2.2
def zxz:ZV:=zL (fun p:Nat×Nat×Nat=>[.int .u64 p.1,.int .u64 p.2.1,.int .u64 p.2.2]) (fun p=>p.1<1000000000∧p.2.1<1000000000∧p.2.2≤1) fun p=>.ret (.tup [.int .u64 (zal p.1 p.2.1 p.2.2).1,.int .u64 (zal p.1 p.2.1 p.2.2).2])
def zs4:ZC zxz 189:=zn fun p h=>zvq p.1 p.2.1 p.2.2 h.1 h.2.1 h.2.2
def zqg(k:Nat):ZV:=zL (fun p:Nat×Nat×Nat=>[.int .u64 p.1,.int .u64 p.2.1,.int .u64 p.2.2,.fp [.int .u64 k]]) (fun p=>p.1<1000000000∧k<1000000000∧p.2.2<1000000000) fun p=>.ret (.tup [.int .u64 (zJ k p.1 p.2.1 p.2.2).1,.int .u64 (zJ k p.1 p.2.1 p.2.2).2])
def zow(k:Nat):∀args r,zqg k args=some r→PCall prog 202 args r:=zn fun p h=>zrd p.1 p.2.1 p.2.2 k h.1 h.2.1 h.2.2
def zof(x y:ZN)(hx:okL x)(hy:okL y)(hlx:x.length≤1000)(hly:y.length≤1000):PCall prog 181 [.fs (nats .u64 x) x.length,.fs (nats .u64 y) y.length,.fn 182 []] (.ret (.fs (nats .u64 (limbs (valL x+valL y))) (limbs (valL x+valL y)).length)):=by
 rw[←zpw hx hy];refine zwz (zsC 182 cPlus1 noΓ) (zf zxt zh) 182 [] rfl rfl rfl Zs zbh (· ≤1) Zs (fun a b c ha hb hc=>⟨?_,?_⟩) x y hx hy hlx hly
 ·exact zo (pat:=fun p:Nat×Nat×Nat=>[V.int .u64 p.1,.int .u64 p.2.1,.int .u64 p.2.2]) (cond:=fun p=>p.1<1000000000∧p.2.1<1000000000∧p.2.2≤1) (res:=fun p=>.ret (.tup [.int .u64 (zbh p.1 p.2.1 p.2.2).1,.int .u64 (zbh p.1 p.2.1 p.2.2).2])) (fun x y h=>zgz h) (a,b,c) ⟨ha,hb,hc⟩
 unfold zbh;dsimp only;omega
def zmf(x y:ZN)(hx:okL x)(hy:okL y)(hlx:x.length≤1000)(hly:y.length≤1000)(hle:valL y≤valL x):PCall prog 181 [.fs (nats .u64 x) x.length,.fs (nats .u64 y) y.length,.fn 189 []] (.ret (.fs (nats .u64 (limbs (valL x-valL y))) (limbs (valL x-valL y)).length)):=by
 rw[←zlN hx hy hle];refine zwz (zsC 189 zxz noΓ) (zf zs4 zh) 189 [] rfl rfl rfl Zs zal (· ≤1) Zs (fun a b c ha hb hc=>⟨?_,?_⟩) x y hx hy hlx hly
 ·exact zo (pat:=fun p:Nat×Nat×Nat=>[V.int .u64 p.1,.int .u64 p.2.1,.int .u64 p.2.2]) (cond:=fun p=>p.1<1000000000∧p.2.1<1000000000∧p.2.2≤1) (res:=fun p=>.ret (.tup [.int .u64 (zal p.1 p.2.1 p.2.2).1,.int .u64 (zal p.1 p.2.1 p.2.2).2])) (fun x y h=>zgz h) (a,b,c) ⟨ha,hb,hc⟩
 unfold zal;dsimp only;omega
def zmu:ZV:=zL (fun p:ZN×ZN=>[.fs (nats .u64 p.1) p.1.length,.fs (nats .u64 p.2) p.2.length,.fn 182 []]) (fun p=>okL p.1∧okL p.2∧p.1.length≤1000∧p.2.length≤1000) fun p=>.ret (.fs (nats .u64 (limbs (valL p.1+valL p.2))) (limbs (valL p.1+valL p.2)).length)
def zms:ZC zmu 181:=zn fun p h=>zof p.1 p.2 h.1 h.2.1 h.2.2.1 h.2.2.2
def zmt(x y:Nat)(hx:(limbs x).length≤1000)(hy:(limbs y).length≤1000):zmu [.fs (nats .u64 (limbs x)) (limbs x).length,.fs (nats .u64 (limbs y)) (limbs y).length,.fn 182 []]=some (.ret (.fs (nats .u64 (limbs (x+y))) (limbs (x+y)).length)):=by
 have:=zo (pat:=fun p:ZN×ZN=>[V.fs (nats .u64 p.1) p.1.length,.fs (nats .u64 p.2) p.2.length,.fn 182 []]) (cond:=fun p=>okL p.1∧okL p.2∧p.1.length≤1000∧p.2.length≤1000) (res:=fun p=>.ret (.fs (nats .u64 (limbs (valL p.1+valL p.2))) (limbs (valL p.1+valL p.2)).length))
  (fun a b h=>by simp at h;exact YaC (zaY h.1.1) (zaY h.2.1)) (limbs x,limbs y) ⟨zI x,zI y,hx,hy⟩
 simp only[zD]at this;exact this
def ziX:ZV:=zL (fun p:ZN×ZN=>[.fs (nats .u64 p.1) p.1.length,.fs (nats .u64 p.2) p.2.length,.fn 189 []]) (fun p=>okL p.1∧okL p.2∧p.1.length≤1000∧p.2.length≤1000∧valL p.2≤valL p.1) fun p=>.ret (.fs (nats .u64 (limbs (valL p.1-valL p.2))) (limbs (valL p.1-valL p.2)).length)
def zky:ZC ziX 181:=zn fun p h=>zmf p.1 p.2 h.1 h.2.1 h.2.2.1 h.2.2.2.1 h.2.2.2.2
def zkz(x y:Nat)(hx:(limbs x).length≤1000)(hy:(limbs y).length≤1000)(hle:y≤x):ziX [.fs (nats .u64 (limbs x)) (limbs x).length,.fs (nats .u64 (limbs y)) (limbs y).length,.fn 189 []]=some (.ret (.fs (nats .u64 (limbs (x-y))) (limbs (x-y)).length)):=by
 have:=zo (pat:=fun p:ZN×ZN=>[V.fs (nats .u64 p.1) p.1.length,.fs (nats .u64 p.2) p.2.length,.fn 189 []]) (cond:=fun p=>okL p.1∧okL p.2∧p.1.length≤1000∧p.2.length≤1000∧valL p.2≤valL p.1) (res:=fun p=>.ret (.fs (nats .u64 (limbs (valL p.1-valL p.2))) (limbs (valL p.1-valL p.2)).length))
  (fun a b h=>by simp at h;exact YaC (zaY h.1.1) (zaY h.2.1)) (limbs x,limbs y) ⟨zI x,zI y,hx,hy,by rw[zD,zD];exact hle⟩
 simp only[zD]at this;exact this
attribute [go_sem] zmt zkz
def plusB_ok(x y:Nat)(hx:(limbs x).length≤1000)(hy:(limbs y).length≤1000):PCall prog 173 [.fs (nats .u64 (limbs x)) (limbs x).length,.fs (nats .u64 (limbs y)) (limbs y).length] (.ret (.fs (nats .u64 (limbs (x+y))) (limbs (x+y)).length)):=by refine Xa (rs:=[.tmp 4]) [0,1,4] [] mixed (zf zms zh) (zg) call173 func173 rfl ntmps173 rfl ?_;simp(disch:=try exact Zq)only[go_sem]
def zvp(x y:Nat)(hx:(limbs x).length≤1000)(hy:(limbs y).length≤1000)(hle:y≤x):PCall prog 176 [.fs (nats .u64 (limbs x)) (limbs x).length,.fs (nats .u64 (limbs y)) (limbs y).length] (.ret (.fs (nats .u64 (limbs (x-y))) (limbs (x-y)).length)):=by refine Xa (rs:=[.tmp 4]) [0,1,4] [] mixed (zf zky zh) (zg) call176 func176 rfl ntmps176 rfl ?_;simp(disch:=try exact Zq)only[go_sem]
end Go.Proofs

namespace Go.Ab
variable {P:Program}
def EndN(C:Cfg)(P:Program)(rs:List ResultVar)(v:V)(Hc:Hp):Out→St→Prop
 | .norm,s| .ret,s=>∃env',Sub C s ⟨env',Hc⟩∧(resL P ⟨env',Hc⟩ rs).1∧tupV (resL P ⟨env',Hc⟩ rs).2=v
 |_,_=>False
theorem endN_ret {C:Cfg}(rs:List ResultVar)(v:V)(Hc:Hp)(s:St):EndN C P rs v Hc .ret s=∃env',Sub C s ⟨env',Hc⟩∧(resL P ⟨env',Hc⟩ rs).1∧tupV (resL P ⟨env',Hc⟩ rs).2=v:=rfl
theorem zwy {C:Cfg}(rs:List ResultVar)(v:V)(Hc:Hp)(s:St):EndN C P rs v Hc .norm s=∃env',Sub C s ⟨env',Hc⟩∧(resL P ⟨env',Hc⟩ rs).1∧tupV (resL P ⟨env',Hc⟩ rs).2=v:=rfl
theorem numB_nil(i:Nat):numB i []=[]:=rfl
theorem zu9(i:Nat)(x:Blk)(r:List Blk):numB i (x::r)=(i,x)::numB (i+1) r:=rfl
attribute [go_sem] endN_ret zwy numB_nil zu9
def NCall.walk {nt:Nat}(keep:ZN)(fz:ZN)(nx:Nat){Γ:FuncId→ZA→Option PR}{Δ:FuncId→ZA→Hp→Option AR}{f:FuncId}{fn:Func}{c:Code}{args:ZA}{F:List Blk}{v:V}{Hc:Hp}{rs:List ResultVar} (hm:P.follows .mixedOrders=true) (hΓ:zcY P Γ) (hΔ:zay P Δ) (hc:zk P f) (hf:P.funcs[f]? =some fn) (hb:fn.body=some c) (hnt:fn.ntmps=nt) (hrs:fn.results.toList=rs) (hok:za0 nt c=true) (hle:args.length≤nt) (hnx:nx=F.length) (hn:F.length≤Hc.next) (h:AXs ⟨nt,za2 keep,Γ,Δ,nx,[],za2 fz,[]⟩ P (EndN ⟨nt,za2 keep,Γ,Δ,nx,[],za2 fz,[]⟩ P rs v Hc) [] c (zcq 0 args) ⟨numB 0 F,nx⟩):NCall P f args F [] v Hc:=by
 subst hnx;refine NCall.of (C:=⟨nt,za2 keep,Γ,Δ,F.length,[],za2 fz,[]⟩) hc hf hb hnt hle rfl (fun b hb=>by cases hb) hn rfl ?_;refine AX.mono (zdq (C:=⟨nt,za2 keep,Γ,Δ,F.length,[],za2 fz,[]⟩) hm ⟨hΓ,hΔ⟩ c _ _ hok h) fun o s hk=>?_;subst hrs;cases o with
 |norm=>obtain⟨env',h1,h2,h3⟩:=hk;exact⟨.inl rfl,_,h1,rfl,h2,h3⟩
 |ret=>obtain⟨env',h1,h2,h3⟩:=hk;exact⟨.inr rfl,_,h1,rfl,h2,h3⟩
 |exit i=>exact hk.elim
 |panic v=>exact hk.elim
def Xi {nt:Nat}(keep:ZN)(fz:ZN)(nx:Nat)(W:ZN){Γ:FuncId→ZA→Option PR}{Δ:FuncId→ZA→Hp→Option AR}{f:FuncId}{fn:Func}{c:Code}{args:ZA}{F:List Blk}{v:V}{Hc:Hp}{rs:List ResultVar} (hm:P.follows .mixedOrders=true) (hΓ:zcY P Γ) (hΔ:zay P Δ) (hc:zk P f) (hf:P.funcs[f]? =some fn) (hb:fn.body=some c) (hnt:fn.ntmps=nt) (hrs:fn.results.toList=rs) (hok:za0 nt c=true) (hle:args.length≤nt) (hnx:nx=F.length) (hW:∀b∈W,b<F.length) (hn:F.length≤Hc.next) (h:AXs ⟨nt,za2 keep,Γ,Δ,nx,W,za2 fz,[]⟩ P (EndN ⟨nt,za2 keep,Γ,Δ,nx,W,za2 fz,[]⟩ P rs v Hc) [] c (zcq 0 args) ⟨numB 0 F,nx⟩):NCall P f args F W v Hc:=by
 subst hnx;refine NCall.of (C:=⟨nt,za2 keep,Γ,Δ,F.length,W,za2 fz,[]⟩) hc hf hb hnt hle rfl hW hn rfl ?_;refine AX.mono (zdq (C:=⟨nt,za2 keep,Γ,Δ,F.length,W,za2 fz,[]⟩) hm ⟨hΓ,hΔ⟩ c _ _ hok h) fun o s hk=>?_;subst hrs;cases o with
 |norm=>obtain⟨env',h1,h2,h3⟩:=hk;exact⟨.inl rfl,_,h1,rfl,h2,h3⟩
 |ret=>obtain⟨env',h1,h2,h3⟩:=hk;exact⟨.inr rfl,_,h1,rfl,h2,h3⟩
 |exit i=>exact hk.elim
 |panic v=>exact hk.elim
def HCall.fresh {f:FuncId}{args:ZA}{F:List Blk}{X:ZA}{n sz:Nat}(hN:NCall P f args F [] (.sl F.length 0 n sz none) ⟨(F.length,.cells X)::numB 0 F,F.length+1⟩)(hX:∀x∈X,Pure x) (is:ZN) (args':ZA) (H:Hp) (hlen:is.length=F.length) (hnd:is.Nodup) (ha:LRel (Rn (fun i=>is.getD i 0) (· <F.length)) args args') (hF:∀(i:Nat)(x:Blk),F[i]? =some x→∃b,is[i]? =some b∧H.get b=some x∧RnB (fun i=>is.getD i 0) (· <F.length) x x) (hF':∀(i:Nat)(x:Blk),F[i]? =some x→∀π N,RnB π N x x) (hk:∀b x,H.get b=some x→b<H.next):HCall P f args' H ⟨True,.sl H.next 0 n sz none,⟨(H.next,.cells X)::H.bs,H.next+1⟩,is,[]⟩:=by
 have tc:zu is H.next H.next=F.length:=by unfold zu;rw[Ye Zo];omega
 refine HCall.of hN is args' (.sl H.next 0 n sz none) H ⟨(H.next,.cells X)::H.bs,H.next+1⟩ hlen hnd ha (fun i x hx=>?_) ?_ (by show H.next+1+F.length=H.next+(F.length+1);omega) (fun b x' hx'=>?_) (fun b hb _=>?_)
 ·obtain⟨b,h1,h2,h3⟩:=hF i x hx;exact⟨b,x,h1,h2,h3⟩
 ·have:=Rn.sl (π:=zu is H.next) (N:=fun b=>b∈is∨(H.next≤b∧b<H.next+1)) (b:=H.next) (off:=0) (len:=n) (sz:=sz) (kc:=none) (kc':=none) (.inr ⟨Yc _,YD _⟩) (.inl rfl);rwa [tc]at this
 ·by_cases hb:b=H.next
  ·subst hb;have hxe:x'=.cells X:=by have:(((H.next,.cells X)::H.bs:ZH).lookup H.next)=some x':=hx';simp at this;exact this.symm
   subst hxe;refine .inr ⟨.inr ⟨Yc _,YD _⟩,.cells X,?_,.cells (zB hX)⟩;rw[tc];show (((F.length,Blk.cells X)::numB 0 F).lookup F.length)=_;simp
  have hg:H.get b=some x':=by
   have:(((H.next,.cells X)::H.bs:ZH).lookup b)=some x':=hx';rw[YE]at this;have hne:(b==H.next)=false:=by simpa using hb
   rw[hne]at this;exact this
  by_cases hi:b∈is
  ·obtain⟨i,hi1,hi2⟩:=YaB.1 hi;have hiF:i<F.length:=Zo;obtain⟨b',k1,k2,k3⟩:=hF i F[i] (by rw[Yb]);rw[Yb hi1,hi2]at k1;cases k1;rw[hg]at k2;have hx:x'=F[i]:=Yh k2;have htc:zu is H.next b=i:=by unfold zu;rw[Yi (hk b _ hg),←hi2,List.Nodup.idxOf_getElem hnd]
   refine .inr ⟨.inl hi,F[i],?_,?_⟩
   ·rw[htc];show (((F.length,Blk.cells X)::numB 0 F).lookup i)=_;have hne:(i==F.length)=false:=by simp;omega
    rw[YE,hne,zc9];simp
   rw[hx];exact hF' i F[i] (by rw[Yb]) _ _
  exact .inl ⟨hk b _ hg,hi,hg⟩
 show (((H.next,.cells X)::H.bs:ZH).lookup b)=H.get b;rw[YE];have hne:(b==H.next)=false:=by simp;omega
 rw[hne];rfl
def zaZ {bs:ZH}{n:Nat}(h:((keysB bs).all fun b=>decide (b<n))=true):∀b x,(⟨bs,n⟩:Hp).get b=some x→b<n:=fun b _ hx=>by have:=Yl.1 h b (zcL hx);simpa using this
def HCall.none {f:FuncId}{args:ZA}{F:List Blk}{v:V}(hN:NCall P f args F [] v ⟨numB 0 F,F.length⟩)(hv:Pure v) (is:ZN) (args':ZA) (H:Hp) (hlen:is.length=F.length) (hnd:is.Nodup) (ha:LRel (Rn (fun i=>is.getD i 0) (· <F.length)) args args') (hF:∀(i:Nat)(x:Blk),F[i]? =some x→∃b,is[i]? =some b∧H.get b=some x∧RnB (fun i=>is.getD i 0) (· <F.length) x x) (hF':∀(i:Nat)(x:Blk),F[i]? =some x→∀π N,RnB π N x x) (hk:∀b x,H.get b=some x→b<H.next):HCall P f args' H ⟨True,v,H,is,[]⟩:=by
 refine HCall.of hN is args' v H H hlen hnd ha (fun i x hx=>?_) (.same hv) rfl (fun b x' hx'=>?_) (fun b hb _=>rfl)
 ·obtain⟨b,h1,h2,h3⟩:=hF i x hx;exact⟨b,x,h1,h2,h3⟩
 by_cases hi:b∈is
 ·obtain⟨i,hi1,hi2⟩:=YaB.1 hi;have hiF:i<F.length:=Zo;obtain⟨b',k1,k2,k3⟩:=hF i F[i] (by rw[Yb]);rw[Yb hi1,hi2]at k1;cases k1;rw[hx']at k2;have hx:x'=F[i]:=Yh k2;have htc:zu is H.next b=i:=by unfold zu;rw[Yi (hk b _ hx'),←hi2,List.Nodup.idxOf_getElem hnd]
  refine .inr ⟨.inl hi,F[i],?_,?_⟩
  ·rw[htc];show ((numB 0 F).lookup i)=_;rw[zc9];simp
  rw[hx];exact hF' i F[i] (by rw[Yb]) _ _
 exact .inl ⟨hk b _ hx',hi,hx'⟩
def conD(R:ZA→Hp→AR→Prop):ZA→Hp→Option AR:=fun args H=>
 open Classical in if h:∃r,R args H r then some (Classical.choose h)else Option.none
def zan {R:ZA→Hp→AR→Prop}{args:ZA}{H:Hp}{r:AR}(h:R args H r)(hu:∀r',R args H r'→r'=r):conD R args H=some r:=by have hx:∃r,R args H r:=⟨r,h⟩;unfold conD;rw[dif_pos hx,hu _ (YaG hx)]
def zT {R:ZA→Hp→AR→Prop}{f:FuncId}(h:∀args H r,R args H r→HCall P f args H r):∀args H r,conD R args H=some r→HCall P f args H r:=by
 intro args H r e;unfold conD at e;split at e
 ·rename_i hx;cases e;exact h _ _ _ (YaG hx)
 cases e
end Go.Ab

namespace Go.Ab
variable {P:Program}
def XA {f:FuncId}{args:ZA}{X:ZA}{o n sz:Nat}(hN:NCall P f args [.cells X] [] (.sl 0 o n sz Option.none) ⟨[(0,.cells X)],1⟩)(hX:∀x∈X,Pure x) (b:Nat) (args':ZA) (H:Hp) (ha:LRel (Rn (fun i=>[b].getD i 0) (· <1)) args args') (hb:H.get b=some (.cells X)) (hk:∀b x,H.get b=some x→b<H.next):HCall P f args' H ⟨True,.sl b o n sz Option.none,H,[b],[]⟩:=by
 have tc:zu [b] H.next b=0:=by unfold zu;rw[Yi (hk b _ hb)];simp
 refine HCall.of hN [b] args' (.sl b o n sz Option.none) H H rfl Zs ha (fun i x hx=>?_) ?_ rfl (fun b' x' hx'=>?_) (fun b' hb' hw=>rfl)
 ·match i with
  |0=>cases hx;exact⟨b,_,rfl,hb,.cells (zB hX)⟩
  |i+1=>simp at hx
 ·have:=Rn.sl (π:=zu [b] H.next) (N:=fun b'=>b'∈[b]∨(H.next≤b'∧b'<H.next)) (b:=b) (off:=o) (len:=n) (sz:=sz) (kc:=Option.none) (kc':=Option.none) (.inl Zs) (.inl rfl);rwa [tc]at this
 by_cases he:b'=b
 ·subst he;rw[hb]at hx';cases hx';refine .inr ⟨.inl Zs,.cells X,?_,.cells (zB hX)⟩;rw[tc];rfl
 exact .inl ⟨hk b' _ hx',by simpa using he,hx'⟩
def XD {f:FuncId}{args:ZA}{X0 X:ZA}{v:V}(hN:NCall P f args [.cells X0] [0] v ⟨[(0,.cells X)],1⟩)(hv:Pure v)(hX0:∀x∈X0,Pure x)(hX:∀x∈X,Pure x) (b:Nat) (args':ZA) (H:Hp) (ha:LRel (Rn (fun i=>[b].getD i 0) (· <1)) args args') (hb:H.get b=some (.cells X0)) (hk:∀b x,H.get b=some x→b<H.next):HCall P f args' H ⟨True,v,H.put b (.cells X),[b],[b]⟩:=by
 have tc:zu [b] H.next b=0:=by unfold zu;rw[Yi (hk b _ hb)];simp
 refine HCall.of hN [b] args' v H (H.put b (.cells X)) rfl Zs ha (fun i x hx=>?_) (.same hv) rfl (fun b' x' hx'=>?_) (fun b' hb' hw=>?_)
 ·match i with
  |0=>cases hx;exact⟨b,_,rfl,hb,.cells (zB hX0)⟩
  |i+1=>simp at hx
 ·rw[Xd]at hx';split at hx'
  ·rename_i he;subst he;rw[hb]at hx';cases hx';refine .inr ⟨.inl Zs,.cells X,?_,.cells (zB hX)⟩;rw[tc];rfl
  rename_i he;exact .inl ⟨hk b' _ hx',by simpa using he,hx'⟩
 rw[Xd,Ye (by simpa using hw)]
end Go.Ab

namespace Go.Ab
variable {C:Cfg}{P:Program}{K:Out→St→Prop}{st:List Fr}{env:Env}{h:Hp}
def takeC:Nat→Code→Option (Code×Code)
 |0,_=>none
 |n+1,.seq x y=>match n with
  |0=>some (x,y)
  |n+1=>match takeC (n+1) y with
   |some (p,q)=>if zbf x=true then none else some (.seq x p,q)
   |none=>none
 |_+1,_=>none
def zf5(hm:P.follows .mixedOrders=true)(hΓ:zfg P C):∀(n:Nat)(c p q:Code)(s:St)(K1 K:Out→St→Prop),takeC n c=some (p,q)→za0 C.nt c=true→AXf C P p s K1→(∀o s,K1 o s→zkP (fun s=>AX C P q s K) K o s)→AX C P c s K
 |0,_,_,_,_,_,_,h,_,_,_=>by cases h
 |n+1,c,p,q,s,K1,K,h,hc,hx,hk1=>by
  cases c<;>try (cases h;done)
  rename_i x y;simp only[za0,Yj]at hc;cases n with
  |zero=>cases h;exact AX.seq ((zdq hm hΓ _ s _ hc.1 hx).mono hk1)
  |succ n=>
   simp only[takeC]at h;split at h
   ·rename_i p' q' e;split at h
    ·cases h
    rename_i hl;cases h;unfold AXf at hx;refine AX.seq ((zdq hm hΓ x s _ hc.1 hx).mono fun o s' hk=>?_);cases o with
    |norm=>
     have hk':if zbf x=true then AX C P p' s' K1 else AXf C P p' s' K1:=hk
     rw[Ye hl]at hk';exact zf5 hm hΓ (n+1) y p' q s' K1 K e hc.2 hk' hk1
    |exit i=>exact hk1 _ _ hk
    |ret=>exact hk1 _ _ hk
    |panic v=>exact hk1 _ _ hk
   cases h
def AXa.cut {y:Code}(n:Nat){p q:Code}(hn:takeC n y=some (p,q))(hm:P.follows .mixedOrders=true)(hΓ:zcY P C.Γ)(hΔ:zay P C.Δ)(hok:za0 C.nt y=true)(hx:AXs C P K (.sem q::st) p env h):AXa C P K st y env h:=
 zf5 hm ⟨hΓ,hΔ⟩ n y p q ⟨env,h⟩ _ _ hn hok hx fun _ _ k=>k
def zfh {base:Nat}{D:Nat→Prop}{g0:G}{H0:Hp}{w0:World}{ops:Array Oper}{K:Out→St→Prop}(he:Entry C base D g0 H0 w0)(hΓ:zfg P C)(hd:∀o∈ops.toList,∀d,o.dst=some d→d<C.nt) (Q:Exit→Act→World→Prop) (js:ZN) (rest:List Oper) (hN:∀s g a w,Rel C base D g0 H0 w0 g s a w→K .norm s→wpOps P ops Q js a w)
 (hQ:∀e a w,Aft C base D g0 H0 w0 (fun o s=>match o with| .norm=>False|o=>K o s) e a w→Q e a w):
 ∀(os:List Oper)(i:Nat),ops.toList.drop i=os++rest→∀(s:St)(g:G)(a:Act)(w:World),Rel C base D g0 H0 w0 g s a w→ARun C P ops os s K→wpOps P ops Q (List.range' i os.length++js) a w
 |[],i,_,s,g,a,w,r,h=>by simpa using hN s g a w r h
 |o::os,i,hi,s,g,a,w,r,h=>by
  have ho:ops[i]? =some o:=by
   have:(ops.toList.drop i)[0]? =some o:=by rw[hi];rfl
   rw[Y8]at this;rw[←YF];simpa using this
  have hos:ops.toList.drop (i+1)=os++rest:=by rw[←YaR,hi];rfl
  have hmem:o∈ops.toList:=YV (by rw[YF];exact ho);have hdo:=hd o hmem;have hO:=r.env.ops ops o;have sem:=zeM hΓ ops o s.env s.h;rw[Yv,List.range'_succ,Ya2];simp only[wpOps,ho];have dput:∀(b:Act)(vc:Value),b.defers=C.dl→(b.put o.dst vc).defers=C.dl:=fun b vc e=>by cases o.dst<;>exact e
  have go:∀(st:Bool)(v:V)(h':Hp)(f:Foot),ARun C P ops os ((s.put o.dst v).hp h') K→wok C f.W=true→StepSem P C.nt ops o s.env s.h st v h' f→o.wp P a w (wpOps P ops Q (List.range' (i+1) os.length++js)) Q:=by intro st v h' f hk hw hst;refine hst.exec g base _ w a _ Q r.post.inv hO (fun b _=>he.inD b) fun g' w' vc hv hp=>?_;exact zfh he hΓ hd Q js rest hN hQ os (i+1) hos ((s.put o.dst v).hp h') g' _ w' ⟨(r.env.mono hp.le).put hdo hv,dput _ _ r.defers,r.step he hp hw⟩ hk
  have pan:∀(v:V)(R:ZN),K (.panic v) s→zi1 P C.nt ops o s.env s.h v R→o.wp P a w (wpOps P ops Q (List.range' (i+1) os.length++js)) Q:=by intro v R hk hst;refine hst g base _ w a _ Q r.post.inv hO (fun b _=>he.inD b) fun g' w' vc hv hp=>?_;exact hQ _ _ _ ⟨.panic v,s,g',hk,⟨vc,hv,rfl⟩,r.env.mono hp.le,r.defers,r.step he hp rfl⟩
  have skip:∀v,VRel g v undef→ARun C P ops os ((s.put o.dst v).hp s.h) K→wpOps P ops Q (List.range' (i+1) os.length++js) (a.put o.dst undef) w:=fun v hv hk=>
   zfh he hΓ hd Q js rest hN hQ os (i+1) hos ((s.put o.dst v).hp s.h) g _ w ⟨r.env.put hdo hv,dput _ _ r.defers,r.post⟩ hk
  unfold ARun at h;split at h
  ·rename_i hg;have hw:Region.wanted o (yielded ops a.tmps)=true:=by unfold Region.wanted;rw[hg]
   rw[Yi hw];rcases zwo sem h with⟨st,v,h',f,hk,hwk,hst⟩|⟨v,R,hk,hst⟩
   ·exact .inl (go st v h' f hk hwk hst)
   exact .inl (pan v R hk hst)
  split at h;rotate_left;·exact h.elim
  rename_i gb hg;have hw:=zm4 hO.rel hg;rcases zob sem h with⟨rfl,st,v,h',f,hk,hwk,hst⟩|⟨rfl,v,R,hk,hst⟩|⟨rfl,hk⟩|⟨v,R,hk,hst⟩
  ·rw[Yi hw];exact .inl (go st v h' f hk hwk hst)
  ·rw[Yi hw];exact .inl (pan v R hk hst)
  ·rw[Ye (by rw[hw];simp)];exact skip _ (Xf rfl PW.nil) hk
  cases gb with
  |true=>rw[Yi hw];refine .inl ?_;refine(hst rfl).exec g base _ w a _ Q r.post.inv hO (fun b _=>he.inD b) fun g' w' vc hv hp=>?_;exact zfh he hΓ hd Q js rest hN hQ os (i+1) hos ((s.put o.dst (.opt true v)).hp s.h) g' _ w' ⟨(r.env.mono hp.le).put hdo (znC rfl hv),dput _ _ r.defers,r.step he hp rfl⟩ hk
  |false=>rw[Ye (by rw[hw];simp)];exact skip _ (zg4 rfl) hk
def zyQ(C:Cfg)(P:Program)(K:Out→St→Prop)(st:List Fr)(y:Code)(os:List Oper)(k:Nat):Out→St→Prop
 | .norm,s=>∃s',(Sub C s s'∨(C.Wm=[]∧∃F,Fz C.nx F s s'))∧AXr C P K (.sem y::st) ⟨os⟩ (os.drop k) s'.env s'.h
 | .exit i,s=>unst C P K st (.exit i) s
 | .ret,s=>unst C P K st .ret s
 | .panic v,s=>unst C P K st (.panic v) s
def AXa.split(k:Nat){id:Nat}{os:List Oper}{y:Code}(hm:P.follows .mixedOrders=true)(hΓ:zcY P C.Γ)(hΔ:zay P C.Δ)(hok:za0 C.nt (.seq (.region id ⟨os⟩ false) y)=true)(hx:AXr C P (zyQ C P K st y os k) [] ⟨os⟩ (os.take k) env h):AXa C P K st (.seq (.region id ⟨os⟩ false) y) env h:=by
 simp only[za0,Yj]at hok;refine AX.seq fun base D g0 H0 w0 g a w he r=>wp_region ?_;have hy:∀o s,unst C P K (.sem y::st) o s→zkP (fun s=>AX C P y s (unst C P K st)) (unst C P K st) o s:=fun o s hk=>by
  cases o with
  |norm=>exact hk
  |exit i=>exact hk
  |ret=>exact hk
  |panic v=>exact hk
 have hq:∀e a w,Aft C base D g0 H0 w0 (zb1 C.keep (unst C P K (.sem y::st))) e a w→Aft C base D g0 H0 w0 (zkP (fun s=>AX C P y s (unst C P K st)) (unst C P K st)) e a w:=fun e a w ⟨o,s,g,h1,h2,h3⟩=>by
  cases o with
  |norm=>exact⟨.norm,s.trim C.keep,g,hy .norm _ h1,h2,h3.env.trim C.keep,h3.defers,h3.post⟩
  |exit i=>exact⟨_,s,g,hy (.exit i) _ h1,h2,h3⟩
  |ret=>exact⟨_,s,g,hy .ret _ h1,h2,h3⟩
  |panic v=>exact⟨_,s,g,hy (.panic v) _ h1,h2,h3⟩
 have hd:=zcf hok.1.1;have hlen:(⟨os⟩:Array Oper).size=os.length:=rfl;rw[Yb7,hlen];by_cases hk:k≤os.length
 ·have hr:List.range' 0 os.length=List.range' 0 (os.take k).length++List.range' k (os.drop k).length:=by rw[Y0,Yai,YaZ hk];have:=@List.range'_append_1 0 k (os.length-k);rw[Yae]at this;rw[this];congr 1;omega
  rw[hr];refine zfh (K:=zb1 C.keep (zyQ C P K st y os k)) he ⟨hΓ,hΔ⟩ hd _ _ (os.drop k) (fun s g a w r hk2=>?_) (fun e a w ⟨o,s,g,h1,h2,h3⟩=>?_) (os.take k) 0 Zs ⟨env,h⟩ g a w r hx
  ·obtain⟨s',hs,hx'⟩:=hk2;have r1:Rel C base D g0 H0 w0 g (s.trim C.keep) a w:=⟨r.env.trim C.keep,r.defers,r.post⟩;have hR:∃g',Rel C base D g0 H0 w0 g' s' a w:=by
    rcases hs with hs|⟨hW,F,hs⟩
    ·exact r1.sub he hs
    exact r1.freeze3 he (fun b hb=>by rw[hW]at hb;cases hb) hs.two
   obtain⟨g',r'⟩:=hR;exact zeC he ⟨hΓ,hΔ⟩ hd _ hq (os.drop k) k rfl s' g' a w r' hx'
  cases o with
  |norm=>exact h1.elim
  |exit i=>exact⟨.exit i,s,g,h1,h2,h3⟩
  |ret=>exact⟨.ret,s,g,h1,h2,h3⟩
  |panic v=>exact⟨.panic v,s,g,h1,h2,h3⟩
 have ht:os.take k=os:=Yp Zo;have hdk:os.drop k=[]:=Ybx Zo;rw[ht]at hx;have hr:List.range' 0 os.length=List.range' 0 os.length++[]:=Zs;rw[hr];refine zfh (K:=zb1 C.keep (zyQ C P K st y os k)) he ⟨hΓ,hΔ⟩ hd _ _ [] (fun s g a w r hk2=>?_) (fun e a w ⟨o,s,g,h1,h2,h3⟩=>?_) os 0 Zs ⟨env,h⟩ g a w r hx
 ·obtain⟨s',hs,hx'⟩:=hk2;have r1:Rel C base D g0 H0 w0 g (s.trim C.keep) a w:=⟨r.env.trim C.keep,r.defers,r.post⟩;have hR:∃g',Rel C base D g0 H0 w0 g' s' a w:=by
   rcases hs with hs|⟨hW,F,hs⟩
   ·exact r1.sub he hs
   exact r1.freeze3 he (fun b hb=>by rw[hW]at hb;cases hb) hs.two
  obtain⟨g',r'⟩:=hR;rw[hdk]at hx';exact zeC (ops:=⟨os⟩) he ⟨hΓ,hΔ⟩ hd _ hq [] os.length Zs s' g' a w r' hx'
 cases o with
 |norm=>exact h1.elim
 |exit i=>exact⟨.exit i,s,g,h1,h2,h3⟩
 |ret=>exact⟨.ret,s,g,h1,h2,h3⟩
 |panic v=>exact⟨.panic v,s,g,h1,h2,h3⟩
def KTo(C:Cfg)(P:Program)(K:Out→St→Prop)(st:List Fr)(env':Env)(h':Hp):Out→St→Prop
 | .norm,s=>Sub C s ⟨env',h'⟩∨(C.Wm=[]∧∃F,Fz C.nx F s ⟨env',h'⟩)
 | .exit i,s=>unst C P K st (.exit i) s
 | .ret,s=>unst C P K st .ret s
 | .panic v,s=>unst C P K st (.panic v) s
def AXr.mono {K K':Out→St→Prop}{ops:Array Oper}:∀ {os:List Oper} {env:Env} {h:Hp},(∀o s,K o s→K' o s)→AXr C P K [] ops os env h→AXr C P K' [] ops os env h:=by
 have key:∀(os:List Oper)(s:St)(K K':Out→St→Prop),(∀o s,K o s→K' o s)→ARun C P ops os s K→ARun C P ops os s K':=by
  intro os;induction os with
  |nil=>intro s K K' hk h;exact hk _ _ h
  |cons o os ih=>
   intro s K K' hk h;unfold ARun at h ⊢;split at h
   ·unfold fol at h ⊢;split at h
    ·exact⟨h.1,h.2.1,ih _ _ _ hk h.2.2⟩
    ·exact⟨h.1,hk _ _ h.2⟩
    exact h
   split at h
   ·unfold folG at h ⊢;split at h
    ·exact⟨h.1,ih _ _ _ hk h.2⟩
    ·split at h
     ·rename_i hb;rw[Yi hb];exact⟨h.1,h.2.1,ih _ _ _ hk h.2.2⟩
     rename_i hb;rw[Ye hb];exact ih _ _ _ hk h
    ·split at h
     ·rename_i hb;rw[Yi hb];exact⟨h.1,hk _ _ h.2⟩
     rename_i hb;rw[Ye hb];exact ih _ _ _ hk h
    exact⟨h.1,ih _ _ _ hk h.2⟩
   exact h
 intro os env h hk hx;refine key os ⟨env,h⟩ _ _ (fun o s k=>?_) hx;cases o with
 |norm=>exact hk _ _ k
 |exit i=>exact hk _ _ k
 |ret=>exact hk _ _ k
 |panic v=>exact hk _ _ k
def AXa.cutTo(n:Nat)(env':Env)(h':Hp){y p q:Code}(hn:takeC n y=some (p,q))(hm:P.follows .mixedOrders=true)(hΓ:zcY P C.Γ)(hΔ:zay P C.Δ)(hok:za0 C.nt y=true)(hx:AXs C P (KTo C P K st env' h') [] p env h) (hc:AXa C P K st q env' h'):AXa C P K st y env h:=
 zf5 hm ⟨hΓ,hΔ⟩ n y p q ⟨env,h⟩ _ _ hn hok hx fun o s k=>by
  cases o with
  |norm=>
   rcases k with k|⟨hW,F,k⟩
   ·exact AX.sub k hc
   exact AX.freeze hW k hc
  |exit i=>exact k
  |ret=>exact k
  |panic v=>exact k
def skV:SR→V
 | .ok true _ v _ _=>.opt false v
 |_=>undefV
def zqx {ops:Array Oper}{os:List Oper}(d:Tmp)(r:SR):AXg1 C P K st ops os (some d) (some false) r env h=AXr C P K st ops os ((d,skV r)::env) h:=by
 apply propext;cases r with
 |ok st' pre v h' f=>
  cases st' with
  |true=>exact⟨fun k=>k.2,fun k=>⟨fun e=>(by cases e),k⟩⟩
  |false=>exact Iff.rfl
 |pan pre v R=>exact Iff.rfl
 |bad=>exact⟨fun k=>k.2,fun k=>⟨rfl,k⟩⟩
def zuX(a:V)(y:Bool)(H:Hp):zd9 (.opt true (.bool false)) a (.bool y) H=.ok true True (.bool y) H ⟨[],[],0,0⟩:=by unfold zd9;cases ha:a.val<;>simp[V.val,V.cond]
attribute [go_sem] List.take_succ_cons List.drop_succ_cons
end Go.Ab

namespace Go.Ab
variable {P:Program}{C:Cfg}{K:Out→St→Prop}{st:List Fr}{env:Env}{h:Hp}
def KToF {α:Type}(C:Cfg)(P:Program)(K:Out→St→Prop)(st:List Fr)(p:α→Prop)(S:α→St):Out→St→Prop
 | .norm,s=>∃i,p i∧(Sub C s (S i)∨(C.Wm=[]∧∃F,Fz C.nx F s (S i)))
 | .exit i,s=>unst C P K st (.exit i) s
 | .ret,s=>unst C P K st .ret s
 | .panic v,s=>unst C P K st (.panic v) s
def zdI {α:Type}{p:α→Prop}{S:α→St}{s:St}(i:α)(hi:p i)(hs:Sub C s (S i)):KToF C P K st p S .norm s:=⟨i,hi,.inl hs⟩
def AXa.cutF {α:Type}(n:Nat)(pr:α→Prop)(env':α→Env)(h':α→Hp){y p q:Code}(hn:takeC n y=some (p,q))(hm:P.follows .mixedOrders=true)(hΓ:zcY P C.Γ)(hΔ:zay P C.Δ)(hok:za0 C.nt y=true) (hx:AXs C P (KToF C P K st pr fun i=>⟨env' i,h' i⟩) [] p env h) (hc:∀i,pr i→AXa C P K st q (env' i) (h' i)):AXa C P K st y env h:=
 zf5 hm ⟨hΓ,hΔ⟩ n y p q ⟨env,h⟩ _ _ hn hok hx fun o s k=>by
  cases o with
  |norm=>
   obtain⟨i,hi,k⟩:=k;rcases k with k|⟨hW,F,k⟩
   ·exact AX.sub k (hc i hi)
   exact AX.freeze hW k (hc i hi)
  |exit i=>exact k
  |ret=>exact k
  |panic v=>exact k
def Xt {nt:Nat}(keep:ZN)(fz:ZN)(nx:Nat)(W:ZN){Γ:FuncId→ZA→Option PR}{Δ:FuncId→ZA→Hp→Option AR}{f:FuncId}{fn:Func}{c:Code}{args:ZA}{F:List Blk}{v:V}{Hc:Hp}{rs:List ResultVar} (hm:P.follows .mixedOrders=true) (hΓ:zcY P Γ) (hΔ:zay P Δ) (hc:zk P f) (hf:P.funcs[f]? =some fn) (hb:fn.body=some c) (hnt:fn.ntmps=nt) (hrs:fn.results.toList=rs) (hok:za0 nt c=true) (hle:args.length≤nt) (hnx:nx=F.length) (hW:∀b∈W,b<F.length) (hn:F.length≤Hc.next) (h:AXa ⟨nt,za2 keep,Γ,Δ,nx,W,za2 fz,[]⟩ P (EndN ⟨nt,za2 keep,Γ,Δ,nx,W,za2 fz,[]⟩ P rs v Hc) [] c (zcq 0 args) ⟨numB 0 F,nx⟩):NCall P f args F W v Hc:=by
 subst hnx;refine NCall.of (C:=⟨nt,za2 keep,Γ,Δ,F.length,W,za2 fz,[]⟩) hc hf hb hnt hle rfl hW hn rfl ?_;refine AX.mono h fun o s hk=>?_;subst hrs;cases o with
 |norm=>obtain⟨env',h1,h2,h3⟩:=hk;exact⟨.inl rfl,_,h1,rfl,h2,h3⟩
 |ret=>obtain⟨env',h1,h2,h3⟩:=hk;exact⟨.inr rfl,_,h1,rfl,h2,h3⟩
 |exit i=>exact hk.elim
 |panic v=>exact hk.elim
end Go.Ab
