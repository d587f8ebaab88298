/- Lists of counts: whether they are valid. -/
import Derived.Test.YtfilkkmcagndlaaGreatDoorAbMapS
import Derived.Test.YtfilkkmcagndlaaGreatDoorAbRules
import Derived.Test.YtfilkkmcagndlaaGreatDoorAbCall
set_option linter.all false
namespace Go.Proofs
open Go.Ab Go.Cnt
noncomputable def incB(l:List Ent):Bool:=@decide (∀ i,i+1<l.length→lt (nthE l i).1 (nthE l (i+1)).1=true) (Classical.propDecidable _)
open Classical in
theorem incB_t {l:List Ent}(h:∀ i,i+1<l.length→lt (nthE l i).1 (nthE l (i+1)).1=true):incB l=true:=by unfold incB;exact decide_eq_true h
open Classical in
theorem incB_f {l:List Ent}{i:Nat}(hi:i+1<l.length)(h:lt (nthE l i).1 (nthE l (i+1)).1=false):incB l=false:=by unfold incB;exact decide_eq_false fun k=>by rw [k i hi]at h;cases h
set_option maxHeartbeats 4000000 in
theorem zly(l:List Ent)(hl:l.length≤1000000):PCall Tryz.prog 47 [.fs (cnts l) l.length,.fn 48 []] (.ret (.bool (incB l))):=by
 refine PCall.walk (rs:=[.tmp 4]) [0,1,4,5,9,23] [] mixed (zf zlV zh) (zg) call47 Tryz.func47 rfl Tryz.ntmps47 rfl (by kernel_rfl) (by simp) (by simp [push_cast]) ?_;simp only [go_sem];refine AXs.loop mixed (zf zlV zh) (zg) (fun i:Nat=>[(0,.fs (cnts l) l.length),(1,.fn 48 []),(5,.int .i64 i)]) (fun _=>⟨[],0⟩) (fun i=>1≤i∧(i≤1∨i≤l.length)∧∀ j,j+1<i→lt (nthE l j).1 (nthE l (j+1)).1=true) (fun i=>l.length+1 - i) 1 (by kernel_rfl)
  ⟨Nat.le_refl _,.inl (Nat.le_refl _),fun j hj=>by omega⟩ (Sub.of0 [] rfl rfl ?_ ?_) ?_
 ·simp only [go_sem]
 ·simp only [go_sem]
 rintro i ⟨h1,h2,h3⟩;simp only [go_sem];refine AXc.introP (fun h4=>?_) (fun h4=>?_)
 ·have a1:=zew l (i - 1) (by omega);have a2:=zew l i (by omega);simp (disch:=first|assumption|(push_cast<;>omega)|omega) only [go_sem,a1,a2];refine⟨by omega,by omega,?_⟩;refine AXc.introP (fun h5=>?_) (fun h5=>?_)
  ·simp only [go_sem];exact(incB_f (i:=i - 1) (by omega) (by rw [show i - 1+1=i by omega];exact(cmpK_ge _ _).1 h5)).symm
  ·have h5':¬0≤cmpK (nthE l (i - 1)).1 (nthE l i).1:=h5;have h6:lt (nthE l (i - 1)).1 (nthE l i).1=true:=(zry _ _).1 (by omega);simp (disch:=first|assumption|(push_cast<;>omega)|omega) only [go_sem];refine zk (i+1) ⟨by omega,by omega,fun j hj=>?_⟩ (by omega) (Sub.of0 [] rfl rfl ?_ ?_)
   ·by_cases hji:j+1<i
    ·exact h3 j hji
    ·have:j=i - 1:=by omega
     subst this;rw [show i - 1+1=i by omega];exact h6
   ·simp only [go_sem];simp
   ·simp only [go_sem]
 ·simp only [go_sem];refine AXa.go mixed (zf zlV zh) (zg) (by kernel_rfl) ?_;simp only [go_sem];exact(incB_t fun j hj=>h3 j (by omega)).symm
noncomputable def cInc:List V→Option PR:=zD (fun l:List Ent=>[.fs (cnts l) l.length,.fn 48 []]) (fun l=>l.length≤1000000) fun l=>.ret (.bool (incB l))
theorem cInc_eq(l:List Ent)(n:Nat)(hn:n=l.length)(hl:l.length≤1000000):cInc [.fs (cnts l) n,.fn 48 []]=some (.ret (.bool (incB l))):=by subst hn;exact zn (pat:=fun l:List Ent=>[.fs (cnts l) l.length,.fn 48 []]) (fun x y h=>by simp at h;exact zcv h.1) l hl
theorem zgx:∀ args r,cInc args=some r→PCall Tryz.prog 47 args r:=zo zly
attribute [go_sem] cInc_eq
def zes(q:Str→Bool)(e:Ent):Bool:= !(decide (e.2<1)||decide (1000000<e.2)|| !q e.1.1|| !q e.1.2)
noncomputable def vB(q:Str→Bool)(l:List Ent):Bool:=decide (l.length≤30000)&&l.all (zes q)&&incB l
theorem all_t {p:Ent→Bool}:∀ {l:List Ent},(∀ i,i<l.length→p (nthE l i)=true)→l.all p=true
 |[],_=>rfl
 |e::l,h=>by rw [List.all_cons,all_t (l:=l) fun i hi=>h (i+1) (by simpa using hi)];have:=h 0 (by simp);simpa [nthE] using this
theorem zfB {l:List Ent}{i:Nat}(h:i<l.length):nthE l i∈l:=by unfold nthE;rw [List.getD_eq_getElem?_getD,List.getElem?_eq_getElem h];exact List.getElem_mem h
theorem all_f {p:Ent→Bool}{l:List Ent}{i:Nat}(hi:i<l.length)(h:p (nthE l i)=false):l.all p=false:=by
 cases e:l.all p with
 |false=>rfl
 |true=>rw [List.all_eq_true.1 e _ (zfB hi)]at h;cases h
set_option maxHeartbeats 4000000 in
theorem zmc(l:List Ent)(hl:l.length≤1000000):PCall Tryz.prog 22 [.fs (cnts l) l.length,.fn 24 []] (.ret (.bool (vB nameB l))):=by
 refine PCall.walk (rs:=[.tmp 4]) [0,1,4,6,9,10,11,12,13,37] [] mixed (zf zfY (zf zgx zh)) (zg) call22 Tryz.func22 rfl Tryz.ntmps22 rfl (by kernel_rfl) (by simp) (by simp [push_cast]) ?_;simp only [go_sem];refine AXc.introP (fun h1=>?_) (fun h1=>?_)
 ·simp only [go_sem];have:¬l.length≤30000:=by omega
  simp [vB,this]
 have h1':l.length≤30000:=by omega
 simp only [go_sem];refine AXs.loop mixed (zf zfY (zf zgx zh)) (zg) (fun i:Nat=>[(0,.fs (cnts l) l.length),(1,.fn 24 []),(10,.fs (cnts l) l.length),(11,.int .i64 l.length),(12,.int .i64 i)]) (fun _=>⟨[],0⟩) (fun i=>i≤l.length∧∀ j,j<i→zes nameB (nthE l j)=true) (fun i=>l.length - i) 0 (by kernel_rfl)
  ⟨Nat.zero_le _,fun j hj=>by omega⟩ (Sub.of0 [] rfl rfl ?_ ?_) ?_
 ·simp only [go_sem]
 ·simp only [go_sem]
 rintro i ⟨h2,h3⟩;simp only [go_sem];refine AXc.introP (fun h4=>?_) (fun h4=>?_)
 ·have a1:=zew l i (by omega);simp (disch:=first|assumption|(push_cast<;>omega)|omega) only [go_sem,a1];refine⟨by omega,?_⟩;have hb:(decide ((nthE l i).2<1)||decide (1000000<(nthE l i).2)|| !nameB (nthE l i).1.1|| !nameB (nthE l i).1.2)= !zes nameB (nthE l i):=by simp [zes]
  rw [hb];cases hg:zes nameB (nthE l i)with
  |false=>
   simp (disch:=first|assumption|(push_cast<;>omega)|omega) only [go_sem];have:=all_f (p:=zes nameB) (l:=l) (i:=i) (by omega) hg;simp [vB,this]
  |true=>
   simp (disch:=first|assumption|(push_cast<;>omega)|omega) only [go_sem];refine zk (i+1) ⟨by omega,fun j hj=>?_⟩ (by omega) (Sub.of0 [] rfl rfl ?_ ?_)
   ·by_cases hji:j<i
    ·exact h3 j hji
    ·obtain rfl:j=i:=by omega
     exact hg
   ·simp only [go_sem];simp
   ·simp only [go_sem]
 ·simp only [go_sem];refine AXa.go mixed (zf zfY (zf zgx zh)) (zg) (by kernel_rfl) ?_;simp (disch:=first|assumption|(push_cast<;>omega)|omega) only [go_sem];have:=all_t (p:=zes nameB) (l:=l) fun j hj=>h3 j (by omega);simp [vB,h1',this]
set_option maxHeartbeats 4000000 in
theorem zkl(l:List Ent)(hl:l.length≤1000000):PCall Tryz.prog 22 [.fs (cnts l) l.length,.fn 23 []] (.ret (.bool (vB zdK l))):=by
 refine PCall.walk (rs:=[.tmp 4]) [0,1,4,6,9,10,11,12,13,37] [] mixed (zf ziz (zf zgx zh)) (zg) call22 Tryz.func22 rfl Tryz.ntmps22 rfl (by kernel_rfl) (by simp) (by simp [push_cast]) ?_;simp only [go_sem];refine AXc.introP (fun h1=>?_) (fun h1=>?_)
 ·simp only [go_sem];have:¬l.length≤30000:=by omega
  simp [vB,this]
 have h1':l.length≤30000:=by omega
 simp only [go_sem];refine AXs.loop mixed (zf ziz (zf zgx zh)) (zg) (fun i:Nat=>[(0,.fs (cnts l) l.length),(1,.fn 23 []),(10,.fs (cnts l) l.length),(11,.int .i64 l.length),(12,.int .i64 i)]) (fun _=>⟨[],0⟩) (fun i=>i≤l.length∧∀ j,j<i→zes zdK (nthE l j)=true) (fun i=>l.length - i) 0 (by kernel_rfl)
  ⟨Nat.zero_le _,fun j hj=>by omega⟩ (Sub.of0 [] rfl rfl ?_ ?_) ?_
 ·simp only [go_sem]
 ·simp only [go_sem]
 rintro i ⟨h2,h3⟩;simp only [go_sem];refine AXc.introP (fun h4=>?_) (fun h4=>?_)
 ·have a1:=zew l i (by omega);simp (disch:=first|assumption|(push_cast<;>omega)|omega) only [go_sem,a1];refine⟨by omega,?_⟩;have hb:(decide ((nthE l i).2<1)||decide (1000000<(nthE l i).2)|| !zdK (nthE l i).1.1|| !zdK (nthE l i).1.2)= !zes zdK (nthE l i):=by simp [zes]
  rw [hb];cases hg:zes zdK (nthE l i)with
  |false=>
   simp (disch:=first|assumption|(push_cast<;>omega)|omega) only [go_sem];have:=all_f (p:=zes zdK) (l:=l) (i:=i) (by omega) hg;simp [vB,this]
  |true=>
   simp (disch:=first|assumption|(push_cast<;>omega)|omega) only [go_sem];refine zk (i+1) ⟨by omega,fun j hj=>?_⟩ (by omega) (Sub.of0 [] rfl rfl ?_ ?_)
   ·by_cases hji:j<i
    ·exact h3 j hji
    ·obtain rfl:j=i:=by omega
     exact hg
   ·simp only [go_sem];simp
   ·simp only [go_sem]
 ·simp only [go_sem];refine AXa.go mixed (zf ziz (zf zgx zh)) (zg) (by kernel_rfl) ?_;simp (disch:=first|assumption|(push_cast<;>omega)|omega) only [go_sem];have:=all_t (p:=zes zdK) (l:=l) fun j hj=>h3 j (by omega);simp [vB,h1',this]
def vlF(b:Bool):FuncId:=match b with|true=>23|false=>24
def vlQ(b:Bool):Str→Bool:=match b with|true=>zdK|false=>nameB
noncomputable def cVL:List V→Option PR:=zD (fun p:Bool×List Ent=>[.fs (cnts p.2) p.2.length,.fn (vlF p.1) []]) (fun p=>p.2.length≤1000000) fun p=>.ret (.bool (vB (vlQ p.1) p.2))
theorem zzd(x y:Bool×List Ent)(h:([.fs (cnts x.2) x.2.length,.fn (vlF x.1) []]:List V)=[.fs (cnts y.2) y.2.length,.fn (vlF y.1) []]):x=y:=by
 simp only [List.cons.injEq,V.fs.injEq,V.fn.injEq,and_true]at h;obtain⟨⟨h1,_⟩,h2⟩:=h;obtain⟨a,l⟩:=x;obtain⟨b,r⟩:=y;have hl:=zcv h1;simp only at hl h2;subst hl;cases a<;>cases b<;>first|rfl|(exact absurd h2 (by decide))
theorem cVL_t(l:List Ent)(n:Nat)(hn:n=l.length)(hl:l.length≤1000000):cVL [.fs (cnts l) n,.fn 23 []]=some (.ret (.bool (vB zdK l))):=by subst hn;exact zn (pat:=fun p:Bool×List Ent=>[.fs (cnts p.2) p.2.length,.fn (vlF p.1) []]) zzd (true,l) hl
theorem cVL_f(l:List Ent)(n:Nat)(hn:n=l.length)(hl:l.length≤1000000):cVL [.fs (cnts l) n,.fn 24 []]=some (.ret (.bool (vB nameB l))):=by subst hn;exact zn (pat:=fun p:Bool×List Ent=>[.fs (cnts p.2) p.2.length,.fn (vlF p.1) []]) zzd (false,l) hl
theorem cVL_ok:∀ args r,cVL args=some r→PCall Tryz.prog 22 args r:=zo fun p hp=>by
 obtain⟨b,l⟩:=p;cases b
 ·exact zmc l hp
 ·exact zkl l hp
attribute [go_sem] cVL_t cVL_f
noncomputable def zcq(a b:List Ent):Bool:=vB zdK a&&vB nameB b
theorem zyJ(a b:List Ent)(ha:a.length≤1000000)(hb:b.length≤1000000):PCall Tryz.prog 9 [.agg [.fs (cnts a) a.length,.fs (cnts b) b.length]] (.ret (.bool (zcq a b))):=by
 refine PCall.walk (rs:=[.tmp 2]) [0,1,2] [] mixed (zf cVL_ok zh) (zg) call9 Tryz.func9 rfl Tryz.ntmps9 rfl (by kernel_rfl) (by simp) (by simp [push_cast]) ?_;simp (disch:=first|assumption|(push_cast<;>omega)|omega) only [go_sem];rfl
noncomputable def zz7:List V→Option PR:=zD (fun p:List Ent×List Ent=>[.agg [.fs (cnts p.1) p.1.length,.fs (cnts p.2) p.2.length]]) (fun p=>p.1.length≤1000000∧p.2.length≤1000000) fun p=>.ret (.bool (zcq p.1 p.2))
theorem zu1(a b:List Ent)(n m:Nat)(hn:n=a.length)(hm:m=b.length)(ha:a.length≤1000000)(hb:b.length≤1000000):zz7 [.agg [.fs (cnts a) n,.fs (cnts b) m]]=some (.ret (.bool (zcq a b))):=by subst hn hm;exact zn (pat:=fun p:List Ent×List Ent=>[.agg [.fs (cnts p.1) p.1.length,.fs (cnts p.2) p.2.length]]) (fun x y h=>by simp only [List.cons.injEq,V.agg.injEq,V.fs.injEq,and_true]at h;exact Prod.ext (zcv h.1.1) (zcv h.2.1)) (a,b) ⟨ha,hb⟩
theorem zu0:∀ args r,zz7 args=some r→PCall Tryz.prog 9 args r:=zo fun p hp=>zyJ p.1 p.2 hp.1 hp.2
attribute [go_sem] zu1
end Go.Proofs

namespace Go.Proofs
open Go.Ab Go.Cnt
def shortK(k:Key):Prop:=k.1.length≤1000000∧k.2.length≤1000000
def zft(l:List Ent):Prop:=∀ e∈l,shortK e.1
end Go.Proofs

namespace Go.Ab
variable {P:Program}
def EndN(C:Cfg)(P:Program)(rs:List ResultVar)(v:V)(Hc:Hp):Out→St→Prop
 | .norm,s| .ret,s=>∃ env',Sub C s ⟨env',Hc⟩∧(resL P ⟨env',Hc⟩ rs).1∧tupV (resL P ⟨env',Hc⟩ rs).2=v
 |_,_=>False
theorem endN_ret {C:Cfg}(rs:List ResultVar)(v:V)(Hc:Hp)(s:St):EndN C P rs v Hc .ret s=∃ env',Sub C s ⟨env',Hc⟩∧(resL P ⟨env',Hc⟩ rs).1∧tupV (resL P ⟨env',Hc⟩ rs).2=v:=rfl
theorem zys {C:Cfg}(rs:List ResultVar)(v:V)(Hc:Hp)(s:St):EndN C P rs v Hc .norm s=∃ env',Sub C s ⟨env',Hc⟩∧(resL P ⟨env',Hc⟩ rs).1∧tupV (resL P ⟨env',Hc⟩ rs).2=v:=rfl
theorem numB_nil(i:Nat):numB i []=[]:=rfl
theorem zw3(i:Nat)(x:Blk)(r:List Blk):numB i (x::r)=(i,x)::numB (i+1) r:=rfl
attribute [go_sem] endN_ret zys numB_nil zw3
theorem NCall.walk {nt:Nat}(keep:List Nat)(fz:List Nat)(nx:Nat){Γ:FuncId→List V→Option PR}{Δ:FuncId→List V→Hp→Option AR}{f:FuncId}{fn:Func}{c:Code}{args:List V}{F:List Blk}{v:V}{Hc:Hp}{rs:List ResultVar}
 (hm:P.follows .mixedOrders=true) (hΓ:zdt P Γ) (hΔ:zbo P Δ) (hc:zi P f) (hf:P.funcs[f]? =some fn) (hb:fn.body=some c) (hnt:fn.ntmps=nt) (hrs:fn.results.toList=rs) (hok:zaz nt c=true) (hle:args.length≤nt) (hnx:nx=F.length) (hn:F.length≤Hc.next)
 (h:AXs ⟨nt,zbC keep,Γ,Δ,nx,[],zbC fz⟩ P (EndN ⟨nt,zbC keep,Γ,Δ,nx,[],zbC fz⟩ P rs v Hc) [] c (zb2 0 args) ⟨numB 0 F,nx⟩):NCall P f args F [] v Hc:=by
 subst hnx
 refine NCall.of (C:=⟨nt,zbC keep,Γ,Δ,F.length,[],zbC fz⟩) hc hf hb hnt hle rfl (fun b hb=>by cases hb) hn ?_
 refine AX.mono (zc9 (C:=⟨nt,zbC keep,Γ,Δ,F.length,[],zbC fz⟩) hm ⟨hΓ,hΔ⟩ c _ _ hok h) fun o s hk=>?_
 subst hrs
 cases o with
 |norm=>obtain⟨env',h1,h2,h3⟩:=hk;exact⟨.inl rfl,_,h1,rfl,h2,h3⟩
 |ret=>obtain⟨env',h1,h2,h3⟩:=hk;exact⟨.inr rfl,_,h1,rfl,h2,h3⟩
 |exit i=>exact hk.elim
 |panic v=>exact hk.elim
theorem NCall.walkW {nt:Nat}(keep:List Nat)(fz:List Nat)(nx:Nat)(W:List Nat){Γ:FuncId→List V→Option PR}{Δ:FuncId→List V→Hp→Option AR}{f:FuncId}{fn:Func}{c:Code}{args:List V}{F:List Blk}{v:V}{Hc:Hp}{rs:List ResultVar}
 (hm:P.follows .mixedOrders=true) (hΓ:zdt P Γ) (hΔ:zbo P Δ) (hc:zi P f) (hf:P.funcs[f]? =some fn) (hb:fn.body=some c) (hnt:fn.ntmps=nt) (hrs:fn.results.toList=rs) (hok:zaz nt c=true) (hle:args.length≤nt) (hnx:nx=F.length) (hW:∀ b∈W,b<F.length) (hn:F.length≤Hc.next)
 (h:AXs ⟨nt,zbC keep,Γ,Δ,nx,W,zbC fz⟩ P (EndN ⟨nt,zbC keep,Γ,Δ,nx,W,zbC fz⟩ P rs v Hc) [] c (zb2 0 args) ⟨numB 0 F,nx⟩):NCall P f args F W v Hc:=by
 subst hnx
 refine NCall.of (C:=⟨nt,zbC keep,Γ,Δ,F.length,W,zbC fz⟩) hc hf hb hnt hle rfl hW hn ?_
 refine AX.mono (zc9 (C:=⟨nt,zbC keep,Γ,Δ,F.length,W,zbC fz⟩) hm ⟨hΓ,hΔ⟩ c _ _ hok h) fun o s hk=>?_
 subst hrs
 cases o with
 |norm=>obtain⟨env',h1,h2,h3⟩:=hk;exact⟨.inl rfl,_,h1,rfl,h2,h3⟩
 |ret=>obtain⟨env',h1,h2,h3⟩:=hk;exact⟨.inr rfl,_,h1,rfl,h2,h3⟩
 |exit i=>exact hk.elim
 |panic v=>exact hk.elim
theorem HCall.fresh {f:FuncId}{args:List V}{F:List Blk}{X:List V}{n sz:Nat}(hN:NCall P f args F [] (.sl F.length 0 n sz none) ⟨(F.length,.cells X)::numB 0 F,F.length+1⟩)(hX:∀ x∈X,Pure x)
 (is:List Nat) (args':List V) (H:Hp) (hlen:is.length=F.length) (hnd:is.Nodup) (ha:LRel (Rn (fun i=>is.getD i 0) (· <F.length)) args args')
 (hF:∀(i:Nat) (x:Blk),F[i]? =some x→∃ b,is[i]? =some b∧H.get b=some x∧RnB (fun i=>is.getD i 0) (· <F.length) x x)
 (hF':∀(i:Nat) (x:Blk),F[i]? =some x→∀ π N,RnB π N x x) (hk:∀ b x,H.get b=some x→b<H.next):
 HCall P f args' H ⟨True,.sl H.next 0 n sz none,⟨(H.next,.cells X)::H.bs,H.next+1⟩,is,[]⟩:=by
 have tc:zU is H.next H.next=F.length:=by unfold zU;rw [if_neg (by omega)];omega
 refine HCall.of hN is args' (.sl H.next 0 n sz none) H ⟨(H.next,.cells X)::H.bs,H.next+1⟩ hlen hnd ha (fun i x hx=>?_) ?_ (by show H.next+1+F.length=H.next+(F.length+1);omega) (fun b x' hx'=>?_) (fun b hb _=>?_)
 ·obtain⟨b,h1,h2,h3⟩:=hF i x hx
  exact⟨b,x,h1,h2,h3⟩
 ·have:=Rn.sl (π:=zU is H.next) (N:=fun b=>b∈is∨(H.next≤b∧b<H.next+1)) (b:=H.next) (off:=0) (len:=n) (sz:=sz) (kc:=none) (kc':=none) (.inr ⟨Nat.le_refl _,Nat.lt_succ_self _⟩) (.inl rfl)
  rwa [tc]at this
 ·by_cases hb:b=H.next
  ·subst hb
   have hxe:x'=.cells X:=by have:(((H.next,.cells X)::H.bs:List (Nat×Blk)).lookup H.next)=some x':=hx';simp at this;exact this.symm
   subst hxe
   refine .inr ⟨.inr ⟨Nat.le_refl _,Nat.lt_succ_self _⟩,.cells X,?_,.cells (zu hX)⟩
   rw [tc]
   show (((F.length,Blk.cells X)::numB 0 F).lookup F.length)=_
   simp
  ·have hg:H.get b=some x':=by
    have:(((H.next,.cells X)::H.bs:List (Nat×Blk)).lookup b)=some x':=hx'
    rw [List.lookup_cons]at this
    have hne:(b==H.next)=false:=by simpa using hb
    rw [hne]at this
    exact this
   by_cases hi:b∈is
   ·obtain⟨i,hi1,hi2⟩:=List.mem_iff_getElem.1 hi
    have hiF:i<F.length:=by omega
    obtain⟨b',k1,k2,k3⟩:=hF i F[i] (by rw [List.getElem?_eq_getElem])
    rw [List.getElem?_eq_getElem hi1,hi2]at k1
    cases k1
    rw [hg]at k2
    have hx:x'=F[i]:=Option.some.inj k2
    have htc:zU is H.next b=i:=by unfold zU;rw [if_pos (hk b _ hg), ←hi2,List.Nodup.idxOf_getElem hnd]
    refine .inr ⟨.inl hi,F[i],?_,?_⟩
    ·rw [htc]
     show (((F.length,Blk.cells X)::numB 0 F).lookup i)=_
     have hne:(i==F.length)=false:=by simp;omega
     rw [List.lookup_cons,hne,zdJ]
     simp
    ·rw [hx];exact hF' i F[i] (by rw [List.getElem?_eq_getElem]) _ _
   ·exact .inl ⟨hk b _ hg,hi,hg⟩
 ·show (((H.next,.cells X)::H.bs:List (Nat×Blk)).lookup b)=H.get b
  rw [List.lookup_cons]
  have hne:(b==H.next)=false:=by simp;omega
  rw [hne];rfl
theorem zbs {bs:List (Nat×Blk)}{n:Nat}(h:((keysB bs).all fun b=>decide (b<n))=true):∀ b x,(⟨bs,n⟩:Hp).get b=some x→b<n:=fun b _ hx=>by have:=List.all_eq_true.1 h b (zfJ hx);simpa using this
theorem HCall.none {f:FuncId}{args:List V}{F:List Blk}{v:V}(hN:NCall P f args F [] v ⟨numB 0 F,F.length⟩)(hv:Pure v)
 (is:List Nat) (args':List V) (H:Hp) (hlen:is.length=F.length) (hnd:is.Nodup) (ha:LRel (Rn (fun i=>is.getD i 0) (· <F.length)) args args')
 (hF:∀(i:Nat) (x:Blk),F[i]? =some x→∃ b,is[i]? =some b∧H.get b=some x∧RnB (fun i=>is.getD i 0) (· <F.length) x x)
 (hF':∀(i:Nat) (x:Blk),F[i]? =some x→∀ π N,RnB π N x x) (hk:∀ b x,H.get b=some x→b<H.next):
 HCall P f args' H ⟨True,v,H,is,[]⟩:=by
 refine HCall.of hN is args' v H H hlen hnd ha (fun i x hx=>?_) (.same hv) rfl (fun b x' hx'=>?_) (fun b hb _=>rfl)
 ·obtain⟨b,h1,h2,h3⟩:=hF i x hx
  exact⟨b,x,h1,h2,h3⟩
 ·by_cases hi:b∈is
  ·obtain⟨i,hi1,hi2⟩:=List.mem_iff_getElem.1 hi
   have hiF:i<F.length:=by omega
   obtain⟨b',k1,k2,k3⟩:=hF i F[i] (by rw [List.getElem?_eq_getElem])
   rw [List.getElem?_eq_getElem hi1,hi2]at k1
   cases k1
   rw [hx']at k2
   have hx:x'=F[i]:=Option.some.inj k2
   have htc:zU is H.next b=i:=by unfold zU;rw [if_pos (hk b _ hx'), ←hi2,List.Nodup.idxOf_getElem hnd]
   refine .inr ⟨.inl hi,F[i],?_,?_⟩
   ·rw [htc]
    show ((numB 0 F).lookup i)=_
    rw [zdJ]
    simp
   ·rw [hx];exact hF' i F[i] (by rw [List.getElem?_eq_getElem]) _ _
  ·exact .inl ⟨hk b _ hx',hi,hx'⟩
theorem HCall.put1 {f:FuncId}{args:List V}{X0 X:List V}{n sz:Nat}(hN:NCall P f args [.cells X0] [0] (.sl 0 0 n sz Option.none) ⟨[(0,.cells X)],1⟩)(hX0:∀ x∈X0,Pure x)(hX:∀ x∈X,Pure x)
 (b:Nat) (args':List V) (H:Hp) (ha:LRel (Rn (fun i=>[b].getD i 0) (· <1)) args args') (hb:H.get b=some (.cells X0)) (hk:∀ b x,H.get b=some x→b<H.next):
 HCall P f args' H ⟨True,.sl b 0 n sz Option.none,H.put b (.cells X),[b],[b]⟩:=by
 have tc:zU [b] H.next b=0:=by unfold zU;rw [if_pos (hk b _ hb)];simp
 refine HCall.of hN [b] args' (.sl b 0 n sz Option.none) H (H.put b (.cells X)) rfl (by simp) ha (fun i x hx=>?_) ?_ rfl (fun b' x' hx'=>?_) (fun b' hb' hw=>?_)
 ·match i with
  |0=>cases hx;exact⟨b,_,rfl,hb,.cells (zu hX0)⟩
  |i+1=>simp at hx
 ·have:=Rn.sl (π:=zU [b] H.next) (N:=fun b'=>b'∈[b]∨(H.next≤b'∧b'<(H.put b (.cells X)).next)) (b:=b) (off:=0) (len:=n) (sz:=sz) (kc:=Option.none) (kc':=Option.none) (.inl (by simp)) (.inl rfl)
  rwa [tc]at this
 ·rw [Hp.get_put]at hx'
  split at hx'
  ·rename_i he
   subst he
   rw [hb]at hx'
   cases hx'
   refine .inr ⟨.inl (by simp),.cells X,?_,.cells (zu hX)⟩
   rw [tc];rfl
  ·rename_i he
   exact .inl ⟨hk b' _ hx',by simpa using he,hx'⟩
 ·rw [Hp.get_put,if_neg (by simpa using hw)]
noncomputable def conD(R:List V→Hp→AR→Prop):List V→Hp→Option AR:=fun args H=>
 open Classical in if h:∃ r,R args H r then some (Classical.choose h)else Option.none
theorem zaN {R:List V→Hp→AR→Prop}{args:List V}{H:Hp}{r:AR}(h:R args H r)(hu:∀ r',R args H r'→r'=r):conD R args H=some r:=by have hx:∃ r,R args H r:=⟨r,h⟩;unfold conD;rw [dif_pos hx,hu _ (Classical.choose_spec hx)]
theorem zaQ {R:List V→Hp→AR→Prop}{f:FuncId}(h:∀ args H r,R args H r→HCall P f args H r):∀ args H r,conD R args H=some r→HCall P f args H r:=by
 intro args H r e;unfold conD at e;split at e
 ·rename_i hx;cases e;exact h _ _ _ (Classical.choose_spec hx)
 ·cases e
end Go.Ab

namespace Go.Ab
variable {P:Program}
theorem HCall.view1 {f:FuncId}{args:List V}{X:List V}{o n sz:Nat}(hN:NCall P f args [.cells X] [] (.sl 0 o n sz Option.none) ⟨[(0,.cells X)],1⟩)(hX:∀ x∈X,Pure x)
 (b:Nat) (args':List V) (H:Hp) (ha:LRel (Rn (fun i=>[b].getD i 0) (· <1)) args args') (hb:H.get b=some (.cells X)) (hk:∀ b x,H.get b=some x→b<H.next):
 HCall P f args' H ⟨True,.sl b o n sz Option.none,H,[b],[]⟩:=by
 have tc:zU [b] H.next b=0:=by unfold zU;rw [if_pos (hk b _ hb)];simp
 refine HCall.of hN [b] args' (.sl b o n sz Option.none) H H rfl (by simp) ha (fun i x hx=>?_) ?_ rfl (fun b' x' hx'=>?_) (fun b' hb' hw=>rfl)
 ·match i with
  |0=>cases hx;exact⟨b,_,rfl,hb,.cells (zu hX)⟩
  |i+1=>simp at hx
 ·have:=Rn.sl (π:=zU [b] H.next) (N:=fun b'=>b'∈[b]∨(H.next≤b'∧b'<H.next)) (b:=b) (off:=o) (len:=n) (sz:=sz) (kc:=Option.none) (kc':=Option.none) (.inl (by simp)) (.inl rfl)
  rwa [tc]at this
 ·by_cases he:b'=b
  ·subst he
   rw [hb]at hx'
   cases hx'
   refine .inr ⟨.inl (by simp),.cells X,?_,.cells (zu hX)⟩
   rw [tc];rfl
  ·exact .inl ⟨hk b' _ hx',by simpa using he,hx'⟩
theorem HCall.putS {f:FuncId}{args:List V}{X0 X:List V}{v:V}(hN:NCall P f args [.cells X0] [0] v ⟨[(0,.cells X)],1⟩)(hv:Pure v)(hX0:∀ x∈X0,Pure x)(hX:∀ x∈X,Pure x)
 (b:Nat) (args':List V) (H:Hp) (ha:LRel (Rn (fun i=>[b].getD i 0) (· <1)) args args') (hb:H.get b=some (.cells X0)) (hk:∀ b x,H.get b=some x→b<H.next):
 HCall P f args' H ⟨True,v,H.put b (.cells X),[b],[b]⟩:=by
 have tc:zU [b] H.next b=0:=by unfold zU;rw [if_pos (hk b _ hb)];simp
 refine HCall.of hN [b] args' v H (H.put b (.cells X)) rfl (by simp) ha (fun i x hx=>?_) (.same hv) rfl (fun b' x' hx'=>?_) (fun b' hb' hw=>?_)
 ·match i with
  |0=>cases hx;exact⟨b,_,rfl,hb,.cells (zu hX0)⟩
  |i+1=>simp at hx
 ·rw [Hp.get_put]at hx'
  split at hx'
  ·rename_i he
   subst he
   rw [hb]at hx'
   cases hx'
   refine .inr ⟨.inl (by simp),.cells X,?_,.cells (zu hX)⟩
   rw [tc];rfl
  ·rename_i he
   exact .inl ⟨hk b' _ hx',by simpa using he,hx'⟩
 ·rw [Hp.get_put,if_neg (by simpa using hw)]
end Go.Ab
