/- Walks of calls that read the caller's blocks and hand out a new one; their contracts at any heap. -/
import Derived.Test.YtbdlfegfepggnaaGreatDoorQNat1
import Derived.Laws.Externs
import Derived.Lib.Builder
set_option linter.all false
set_option maxHeartbeats 16000000
set_option maxRecDepth 100000
noncomputable section
namespace Go.Ab
variable {P:Program}
def EndN(C:Cfg)(P:Program)(rs:List ResultVar)(v:V)(Hc:Hp):Out→St→Prop
 | .norm,s| .ret,s=>∃env',Sub C s ⟨env',Hc⟩∧(resL P ⟨env',Hc⟩ rs).1∧tupV (resL P ⟨env',Hc⟩ rs).2=v
 |_,_=>False
theorem endN_ret {C:Cfg}(rs:List ResultVar)(v:V)(Hc:Hp)(s:St):EndN C P rs v Hc .ret s=∃env',Sub C s ⟨env',Hc⟩∧(resL P ⟨env',Hc⟩ rs).1∧tupV (resL P ⟨env',Hc⟩ rs).2=v:=rfl
theorem zyW {C:Cfg}(rs:List ResultVar)(v:V)(Hc:Hp)(s:St):EndN C P rs v Hc .norm s=∃env',Sub C s ⟨env',Hc⟩∧(resL P ⟨env',Hc⟩ rs).1∧tupV (resL P ⟨env',Hc⟩ rs).2=v:=rfl
theorem numB_nil(i:Nat):numB i []=[]:=rfl
theorem zxH(i:Nat)(x:Blk)(r:List Blk):numB i (x::r)=(i,x)::numB (i+1) r:=rfl
attribute [go_sem] endN_ret zyW numB_nil zxH
def NCall.walk {nt:Nat}(keep:ZN)(fz:ZN)(nx:Nat){Γ:FuncId→ZA→Option PR}{Δ:FuncId→ZA→Hp→Option AR}{f:FuncId}{fn:Func}{c:Code}{args:ZA}{F:List Blk}{v:V}{Hc:Hp}{rs:List ResultVar} (hm:P.follows .mixedOrders=true) (hΓ:zdw P Γ) (hΔ:zaP P Δ) (hc:zk P f) (hf:P.funcs[f]? =some fn) (hb:fn.body=some c) (hnt:fn.ntmps=nt) (hrs:fn.results.toList=rs) (hok:zas nt c=true) (hle:args.length≤nt) (hnx:nx=F.length) (hn:F.length≤Hc.next) (h:AXs ⟨nt,zbE keep,Γ,Δ,nx,[],zbE fz,[]⟩ P (EndN ⟨nt,zbE keep,Γ,Δ,nx,[],zbE fz,[]⟩ P rs v Hc) [] c (zbY 0 args) ⟨numB 0 F,nx⟩):NCall P f args F [] v Hc:=by
 subst hnx;refine NCall.of (C:=⟨nt,zbE keep,Γ,Δ,F.length,[],zbE fz,[]⟩) hc hf hb hnt hle rfl (fun b hb=>by cases hb) hn rfl ?_;refine AX.mono (zc5 (C:=⟨nt,zbE keep,Γ,Δ,F.length,[],zbE fz,[]⟩) hm ⟨hΓ,hΔ⟩ c _ _ hok h) fun o s hk=>?_;subst hrs;cases o with
 |norm=>obtain⟨env',h1,h2,h3⟩:=hk;exact⟨.inl rfl,_,h1,rfl,h2,h3⟩
 |ret=>obtain⟨env',h1,h2,h3⟩:=hk;exact⟨.inr rfl,_,h1,rfl,h2,h3⟩
 |exit i=>exact hk.elim
 |panic v=>exact hk.elim
def Xi {nt:Nat}(keep:ZN)(fz:ZN)(nx:Nat)(W:ZN){Γ:FuncId→ZA→Option PR}{Δ:FuncId→ZA→Hp→Option AR}{f:FuncId}{fn:Func}{c:Code}{args:ZA}{F:List Blk}{v:V}{Hc:Hp}{rs:List ResultVar} (hm:P.follows .mixedOrders=true) (hΓ:zdw P Γ) (hΔ:zaP P Δ) (hc:zk P f) (hf:P.funcs[f]? =some fn) (hb:fn.body=some c) (hnt:fn.ntmps=nt) (hrs:fn.results.toList=rs) (hok:zas nt c=true) (hle:args.length≤nt) (hnx:nx=F.length) (hW:∀b∈W,b<F.length) (hn:F.length≤Hc.next) (h:AXs ⟨nt,zbE keep,Γ,Δ,nx,W,zbE fz,[]⟩ P (EndN ⟨nt,zbE keep,Γ,Δ,nx,W,zbE fz,[]⟩ P rs v Hc) [] c (zbY 0 args) ⟨numB 0 F,nx⟩):NCall P f args F W v Hc:=by
 subst hnx;refine NCall.of (C:=⟨nt,zbE keep,Γ,Δ,F.length,W,zbE fz,[]⟩) hc hf hb hnt hle rfl hW hn rfl ?_;refine AX.mono (zc5 (C:=⟨nt,zbE keep,Γ,Δ,F.length,W,zbE fz,[]⟩) hm ⟨hΓ,hΔ⟩ c _ _ hok h) fun o s hk=>?_;subst hrs;cases o with
 |norm=>obtain⟨env',h1,h2,h3⟩:=hk;exact⟨.inl rfl,_,h1,rfl,h2,h3⟩
 |ret=>obtain⟨env',h1,h2,h3⟩:=hk;exact⟨.inr rfl,_,h1,rfl,h2,h3⟩
 |exit i=>exact hk.elim
 |panic v=>exact hk.elim
def HCall.fresh {f:FuncId}{args:ZA}{F:List Blk}{X:ZA}{n sz:Nat}(hN:NCall P f args F [] (.sl F.length 0 n sz none) ⟨(F.length,.cells X)::numB 0 F,F.length+1⟩)(hX:∀x∈X,Pure x) (is:ZN) (args':ZA) (H:Hp) (hlen:is.length=F.length) (hnd:is.Nodup) (ha:LRel (Rn (fun i=>is.getD i 0) (· <F.length)) args args') (hF:∀(i:Nat)(x:Blk),F[i]? =some x→∃b,is[i]? =some b∧H.get b=some x∧RnB (fun i=>is.getD i 0) (· <F.length) x x) (hF':∀(i:Nat)(x:Blk),F[i]? =some x→∀π N,RnB π N x x) (hk:∀b x,H.get b=some x→b<H.next):HCall P f args' H ⟨True,.sl H.next 0 n sz none,⟨(H.next,.cells X)::H.bs,H.next+1⟩,is,[]⟩:=by
 have tc:zu is H.next H.next=F.length:=by unfold zu;rw[Yh Zo];omega
 refine HCall.of hN is args' (.sl H.next 0 n sz none) H ⟨(H.next,.cells X)::H.bs,H.next+1⟩ hlen hnd ha (fun i x hx=>?_) ?_ (by show H.next+1+F.length=H.next+(F.length+1);omega) (fun b x' hx'=>?_) (fun b hb _=>?_)
 ·obtain⟨b,h1,h2,h3⟩:=hF i x hx;exact⟨b,x,h1,h2,h3⟩
 ·have:=Rn.sl (π:=zu is H.next) (N:=fun b=>b∈is∨(H.next≤b∧b<H.next+1)) (b:=H.next) (off:=0) (len:=n) (sz:=sz) (kc:=none) (kc':=none) (.inr ⟨Yc _,Yz _⟩) (.inl rfl);rwa [tc]at this
 ·by_cases hb:b=H.next
  ·subst hb;have hxe:x'=.cells X:=by have:(((H.next,.cells X)::H.bs:ZH).lookup H.next)=some x':=hx';simp at this;exact this.symm
   subst hxe;refine .inr ⟨.inr ⟨Yc _,Yz _⟩,.cells X,?_,.cells (zA hX)⟩;rw[tc];show (((F.length,Blk.cells X)::numB 0 F).lookup F.length)=_;simp
  have hg:H.get b=some x':=by
   have:(((H.next,.cells X)::H.bs:ZH).lookup b)=some x':=hx';rw[YC]at this;have hne:(b==H.next)=false:=by simpa using hb
   rw[hne]at this;exact this
  by_cases hi:b∈is
  ·obtain⟨i,hi1,hi2⟩:=Yaw.1 hi;have hiF:i<F.length:=Zo;obtain⟨b',k1,k2,k3⟩:=hF i F[i] (by rw[Yb]);rw[Yb hi1,hi2]at k1;cases k1;rw[hg]at k2;have hx:x'=F[i]:=Yj k2;have htc:zu is H.next b=i:=by unfold zu;rw[Yi (hk b _ hg),←hi2,List.Nodup.idxOf_getElem hnd]
   refine .inr ⟨.inl hi,F[i],?_,?_⟩
   ·rw[htc];show (((F.length,Blk.cells X)::numB 0 F).lookup i)=_;have hne:(i==F.length)=false:=by simp;omega
    rw[YC,hne,zdH];simp
   rw[hx];exact hF' i F[i] (by rw[Yb]) _ _
  exact .inl ⟨hk b _ hg,hi,hg⟩
 show (((H.next,.cells X)::H.bs:ZH).lookup b)=H.get b;rw[YC];have hne:(b==H.next)=false:=by simp;omega
 rw[hne];rfl
def zaX {bs:ZH}{n:Nat}(h:((keysB bs).all fun b=>decide (b<n))=true):∀b x,(⟨bs,n⟩:Hp).get b=some x→b<n:=fun b _ hx=>by have:=Yo.1 h b (zdl hx);simpa using this
def HCall.none {f:FuncId}{args:ZA}{F:List Blk}{v:V}(hN:NCall P f args F [] v ⟨numB 0 F,F.length⟩)(hv:Pure v) (is:ZN) (args':ZA) (H:Hp) (hlen:is.length=F.length) (hnd:is.Nodup) (ha:LRel (Rn (fun i=>is.getD i 0) (· <F.length)) args args') (hF:∀(i:Nat)(x:Blk),F[i]? =some x→∃b,is[i]? =some b∧H.get b=some x∧RnB (fun i=>is.getD i 0) (· <F.length) x x) (hF':∀(i:Nat)(x:Blk),F[i]? =some x→∀π N,RnB π N x x) (hk:∀b x,H.get b=some x→b<H.next):HCall P f args' H ⟨True,v,H,is,[]⟩:=by
 refine HCall.of hN is args' v H H hlen hnd ha (fun i x hx=>?_) (.same hv) rfl (fun b x' hx'=>?_) (fun b hb _=>rfl)
 ·obtain⟨b,h1,h2,h3⟩:=hF i x hx;exact⟨b,x,h1,h2,h3⟩
 by_cases hi:b∈is
 ·obtain⟨i,hi1,hi2⟩:=Yaw.1 hi;have hiF:i<F.length:=Zo;obtain⟨b',k1,k2,k3⟩:=hF i F[i] (by rw[Yb]);rw[Yb hi1,hi2]at k1;cases k1;rw[hx']at k2;have hx:x'=F[i]:=Yj k2;have htc:zu is H.next b=i:=by unfold zu;rw[Yi (hk b _ hx'),←hi2,List.Nodup.idxOf_getElem hnd]
  refine .inr ⟨.inl hi,F[i],?_,?_⟩
  ·rw[htc];show ((numB 0 F).lookup i)=_;rw[zdH];simp
  rw[hx];exact hF' i F[i] (by rw[Yb]) _ _
 exact .inl ⟨hk b _ hx',hi,hx'⟩
def HCall.put1 {f:FuncId}{args:ZA}{X0 X:ZA}{n sz:Nat}(hN:NCall P f args [.cells X0] [0] (.sl 0 0 n sz Option.none) ⟨[(0,.cells X)],1⟩)(hX0:∀x∈X0,Pure x)(hX:∀x∈X,Pure x) (b:Nat) (args':ZA) (H:Hp) (ha:LRel (Rn (fun i=>[b].getD i 0) (· <1)) args args') (hb:H.get b=some (.cells X0)) (hk:∀b x,H.get b=some x→b<H.next):HCall P f args' H ⟨True,.sl b 0 n sz Option.none,H.put b (.cells X),[b],[b]⟩:=by
 have tc:zu [b] H.next b=0:=by unfold zu;rw[Yi (hk b _ hb)];simp
 refine HCall.of hN [b] args' (.sl b 0 n sz Option.none) H (H.put b (.cells X)) rfl Zs ha (fun i x hx=>?_) ?_ rfl (fun b' x' hx'=>?_) (fun b' hb' hw=>?_)
 ·match i with
  |0=>cases hx;exact⟨b,_,rfl,hb,.cells (zA hX0)⟩
  |i+1=>simp at hx
 ·have:=Rn.sl (π:=zu [b] H.next) (N:=fun b'=>b'∈[b]∨(H.next≤b'∧b'<(H.put b (.cells X)).next)) (b:=b) (off:=0) (len:=n) (sz:=sz) (kc:=Option.none) (kc':=Option.none) (.inl Zs) (.inl rfl);rwa [tc]at this
 ·rw[Xe]at hx';split at hx'
  ·rename_i he;subst he;rw[hb]at hx';cases hx';refine .inr ⟨.inl Zs,.cells X,?_,.cells (zA hX)⟩;rw[tc];rfl
  rename_i he;exact .inl ⟨hk b' _ hx',by simpa using he,hx'⟩
 rw[Xe,Yh (by simpa using hw)]
def XC {f:FuncId}{args:ZA}{X0 X:ZA}{n sz:Nat}(hN:NCall P f args [.cells X0] [0] (.sl 1 0 n sz Option.none) ⟨[(1,.cells X)],2⟩)(hX0:∀x∈X0,Pure x)(hX:∀x∈X,Pure x) (b:Nat) (args':ZA) (H:Hp) (ha:LRel (Rn (fun i=>[b].getD i 0) (· <1)) args args') (hb:H.get b=some (.cells X0)) (hk:∀b x,H.get b=some x→b<H.next):HCall P f args' H ⟨True,.sl H.next 0 n sz Option.none,(H.kill b).new (.cells X),[b],[b]⟩:=by
 have tc:zu [b] H.next H.next=1:=by unfold zu;rw[Yh Zo];simp
 refine HCall.of hN [b] args' (.sl H.next 0 n sz Option.none) H ((H.kill b).new (.cells X)) rfl Zs ha (fun i x hx=>?_) ?_ (by show H.next+1+1=H.next+2;omega) (fun b' x' hx'=>?_) (fun b' hb' hw=>?_)
 ·match i with
  |0=>cases hx;exact⟨b,_,rfl,hb,.cells (zA hX0)⟩
  |i+1=>simp at hx
 ·have:=Rn.sl (π:=zu [b] H.next) (N:=fun b'=>b'∈[b]∨(H.next≤b'∧b'<((H.kill b).new (.cells X)).next)) (b:=H.next) (off:=0) (len:=n) (sz:=sz) (kc:=Option.none) (kc':=Option.none) (.inr ⟨Yc _,Yz _⟩) (.inl rfl);rwa [tc]at this
 ·rw[Xd]at hx';split at hx'
  ·rename_i he;have he':b'=H.next:=he;subst he';cases hx';refine .inr ⟨.inr ⟨Yc _,Yz _⟩,.cells X,?_,.cells (zA hX)⟩;rw[tc];rfl
  rw[Xg]at hx';split at hx'
  ·cases hx'
  rename_i he;exact .inl ⟨hk b' _ hx',by simpa using he,hx'⟩
 have h1:b'≠H.next:=Zo;rw[Xd];rw[Yh (show ¬b'=(H.kill b).next from h1),Xg,Yh (by simpa using hw)]
def conD(R:ZA→Hp→AR→Prop):ZA→Hp→Option AR:=fun args H=>
 open Classical in if h:∃r,R args H r then some (Classical.choose h)else Option.none
def zat {R:ZA→Hp→AR→Prop}{args:ZA}{H:Hp}{r:AR}(h:R args H r)(hu:∀r',R args H r'→r'=r):conD R args H=some r:=by have hx:∃r,R args H r:=⟨r,h⟩;unfold conD;rw[dif_pos hx,hu _ (Yat hx)]
def zV {R:ZA→Hp→AR→Prop}{f:FuncId}(h:∀args H r,R args H r→HCall P f args H r):∀args H r,conD R args H=some r→HCall P f args H r:=by
 intro args H r e;unfold conD at e;split at e
 ·rename_i hx;cases e;exact h _ _ _ (Yat hx)
 cases e
end Go.Ab

namespace Go.Ab
variable {P:Program}
def XE {f:FuncId}{args:ZA}{X:ZA}{o n sz:Nat}(hN:NCall P f args [.cells X] [] (.sl 0 o n sz Option.none) ⟨[(0,.cells X)],1⟩)(hX:∀x∈X,Pure x) (b:Nat) (args':ZA) (H:Hp) (ha:LRel (Rn (fun i=>[b].getD i 0) (· <1)) args args') (hb:H.get b=some (.cells X)) (hk:∀b x,H.get b=some x→b<H.next):HCall P f args' H ⟨True,.sl b o n sz Option.none,H,[b],[]⟩:=by
 have tc:zu [b] H.next b=0:=by unfold zu;rw[Yi (hk b _ hb)];simp
 refine HCall.of hN [b] args' (.sl b o n sz Option.none) H H rfl Zs ha (fun i x hx=>?_) ?_ rfl (fun b' x' hx'=>?_) (fun b' hb' hw=>rfl)
 ·match i with
  |0=>cases hx;exact⟨b,_,rfl,hb,.cells (zA hX)⟩
  |i+1=>simp at hx
 ·have:=Rn.sl (π:=zu [b] H.next) (N:=fun b'=>b'∈[b]∨(H.next≤b'∧b'<H.next)) (b:=b) (off:=o) (len:=n) (sz:=sz) (kc:=Option.none) (kc':=Option.none) (.inl Zs) (.inl rfl);rwa [tc]at this
 by_cases he:b'=b
 ·subst he;rw[hb]at hx';cases hx';refine .inr ⟨.inl Zs,.cells X,?_,.cells (zA hX)⟩;rw[tc];rfl
 exact .inl ⟨hk b' _ hx',by simpa using he,hx'⟩
def XH {f:FuncId}{args:ZA}{X0 X:ZA}{v:V}(hN:NCall P f args [.cells X0] [0] v ⟨[(0,.cells X)],1⟩)(hv:Pure v)(hX0:∀x∈X0,Pure x)(hX:∀x∈X,Pure x) (b:Nat) (args':ZA) (H:Hp) (ha:LRel (Rn (fun i=>[b].getD i 0) (· <1)) args args') (hb:H.get b=some (.cells X0)) (hk:∀b x,H.get b=some x→b<H.next):HCall P f args' H ⟨True,v,H.put b (.cells X),[b],[b]⟩:=by
 have tc:zu [b] H.next b=0:=by unfold zu;rw[Yi (hk b _ hb)];simp
 refine HCall.of hN [b] args' v H (H.put b (.cells X)) rfl Zs ha (fun i x hx=>?_) (.same hv) rfl (fun b' x' hx'=>?_) (fun b' hb' hw=>?_)
 ·match i with
  |0=>cases hx;exact⟨b,_,rfl,hb,.cells (zA hX0)⟩
  |i+1=>simp at hx
 ·rw[Xe]at hx';split at hx'
  ·rename_i he;subst he;rw[hb]at hx';cases hx';refine .inr ⟨.inl Zs,.cells X,?_,.cells (zA hX)⟩;rw[tc];rfl
  rename_i he;exact .inl ⟨hk b' _ hx',by simpa using he,hx'⟩
 rw[Xe,Yh (by simpa using hw)]
end Go.Ab

namespace Go.Ab
variable {C:Cfg}{P:Program}{K:Out→St→Prop}{st:List Fr}{env:Env}{h:Hp}
def takeC:Nat→Code→Option (Code×Code)
 |0,_=>none
 |n+1,.seq x y=>match n with
  |0=>some (x,y)
  |n+1=>match takeC (n+1) y with
   |some (p,q)=>if zbw x=true then none else some (.seq x p,q)
   |none=>none
 |_+1,_=>none
def zkh(hm:P.follows .mixedOrders=true)(hΓ:zcz P C):∀(n:Nat)(c p q:Code)(s:St)(K1 K:Out→St→Prop),takeC n c=some (p,q)→zas C.nt c=true→AXf C P p s K1→(∀o s,K1 o s→zgO (fun s=>AX C P q s K) K o s)→AX C P c s K
 |0,_,_,_,_,_,_,h,_,_,_=>by cases h
 |n+1,c,p,q,s,K1,K,h,hc,hx,hk1=>by
  cases c<;>try (cases h;done)
  rename_i x y;simp only[zas,Yg]at hc;cases n with
  |zero=>cases h;exact AX.seq ((zc5 hm hΓ _ s _ hc.1 hx).mono hk1)
  |succ n=>
   simp only[takeC]at h;split at h
   ·rename_i p' q' e;split at h
    ·cases h
    rename_i hl;cases h;unfold AXf at hx;refine AX.seq ((zc5 hm hΓ x s _ hc.1 hx).mono fun o s' hk=>?_);cases o with
    |norm=>
     have hk':if zbw x=true then AX C P p' s' K1 else AXf C P p' s' K1:=hk
     rw[Yh hl]at hk';exact zkh hm hΓ (n+1) y p' q s' K1 K e hc.2 hk' hk1
    |exit i=>exact hk1 _ _ hk
    |ret=>exact hk1 _ _ hk
    |panic v=>exact hk1 _ _ hk
   cases h
def AXa.cut {y:Code}(n:Nat){p q:Code}(hn:takeC n y=some (p,q))(hm:P.follows .mixedOrders=true)(hΓ:zdw P C.Γ)(hΔ:zaP P C.Δ)(hok:zas C.nt y=true)(hx:AXs C P K (.sem q::st) p env h):AXa C P K st y env h:=
 zkh hm ⟨hΓ,hΔ⟩ n y p q ⟨env,h⟩ _ _ hn hok hx fun _ _ k=>k
def zfW {base:Nat}{D:Nat→Prop}{g0:G}{H0:Hp}{w0:World}{ops:Array Oper}{K:Out→St→Prop}(he:Entry C base D g0 H0 w0)(hΓ:zcz P C)(hd:∀o∈ops.toList,∀d,o.dst=some d→d<C.nt) (Q:Exit→Act→World→Prop) (js:ZN) (rest:List Oper) (hN:∀s g a w,Rel C base D g0 H0 w0 g s a w→K .norm s→wpOps P ops Q js a w)
 (hQ:∀e a w,Aft C base D g0 H0 w0 (fun o s=>match o with| .norm=>False|o=>K o s) e a w→Q e a w):
 ∀(os:List Oper)(i:Nat),ops.toList.drop i=os++rest→∀(s:St)(g:G)(a:Act)(w:World),Rel C base D g0 H0 w0 g s a w→ARun C P ops os s K→wpOps P ops Q (List.range' i os.length++js) a w
 |[],i,_,s,g,a,w,r,h=>by simpa using hN s g a w r h
 |o::os,i,hi,s,g,a,w,r,h=>by
  have ho:ops[i]? =some o:=by
   have:(ops.toList.drop i)[0]? =some o:=by rw[hi];rfl
   rw[Yak]at this;rw[←YE];simpa using this
  have hos:ops.toList.drop (i+1)=os++rest:=by rw[←Ya8,hi];rfl
  have hmem:o∈ops.toList:=Y0 (by rw[YE];exact ho);have hdo:=hd o hmem;have hO:=r.env.ops ops o;have sem:=zcG hΓ ops o s.env s.h;rw[Yn,List.range'_succ,Ya4];simp only[wpOps,ho];have dput:∀(b:Act)(vc:Value),b.defers=C.dl→(b.put o.dst vc).defers=C.dl:=fun b vc e=>by cases o.dst<;>exact e
  have go:∀(st:Bool)(v:V)(h':Hp)(f:Foot),ARun C P ops os ((s.put o.dst v).hp h') K→wok C f.W=true→StepSem P C.nt ops o s.env s.h st v h' f→o.wp P a w (wpOps P ops Q (List.range' (i+1) os.length++js)) Q:=by intro st v h' f hk hw hst;refine hst.exec g base _ w a _ Q r.post.inv hO (fun b _=>he.inD b) fun g' w' vc hv hp=>?_;exact zfW he hΓ hd Q js rest hN hQ os (i+1) hos ((s.put o.dst v).hp h') g' _ w' ⟨(r.env.mono hp.le).put hdo hv,dput _ _ r.defers,r.step he hp hw⟩ hk
  have pan:∀(v:V)(R:ZN),K (.panic v) s→zj2 P C.nt ops o s.env s.h v R→o.wp P a w (wpOps P ops Q (List.range' (i+1) os.length++js)) Q:=by intro v R hk hst;refine hst g base _ w a _ Q r.post.inv hO (fun b _=>he.inD b) fun g' w' vc hv hp=>?_;exact hQ _ _ _ ⟨.panic v,s,g',hk,⟨vc,hv,rfl⟩,r.env.mono hp.le,r.defers,r.step he hp rfl⟩
  have skip:∀v,VRel g v undef→ARun C P ops os ((s.put o.dst v).hp s.h) K→wpOps P ops Q (List.range' (i+1) os.length++js) (a.put o.dst undef) w:=fun v hv hk=>
   zfW he hΓ hd Q js rest hN hQ os (i+1) hos ((s.put o.dst v).hp s.h) g _ w ⟨r.env.put hdo hv,dput _ _ r.defers,r.post⟩ hk
  unfold ARun at h;split at h
  ·rename_i hg;have hw:Region.wanted o (yielded ops a.tmps)=true:=by unfold Region.wanted;rw[hg]
   rw[Yi hw];rcases zyR sem h with⟨st,v,h',f,hk,hwk,hst⟩|⟨v,R,hk,hst⟩
   ·exact .inl (go st v h' f hk hwk hst)
   exact .inl (pan v R hk hst)
  split at h;rotate_left;·exact h.elim
  rename_i gb hg;have hw:=zoA hO.rel hg;rcases zpP sem h with⟨rfl,st,v,h',f,hk,hwk,hst⟩|⟨rfl,v,R,hk,hst⟩|⟨rfl,hk⟩|⟨v,R,hk,hst⟩
  ·rw[Yi hw];exact .inl (go st v h' f hk hwk hst)
  ·rw[Yi hw];exact .inl (pan v R hk hst)
  ·rw[Yh (by rw[hw];simp)];exact skip _ (Xf rfl PW.nil) hk
  cases gb with
  |true=>rw[Yi hw];refine .inl ?_;refine(hst rfl).exec g base _ w a _ Q r.post.inv hO (fun b _=>he.inD b) fun g' w' vc hv hp=>?_;exact zfW he hΓ hd Q js rest hN hQ os (i+1) hos ((s.put o.dst (.opt true v)).hp s.h) g' _ w' ⟨(r.env.mono hp.le).put hdo (zpf rfl hv),dput _ _ r.defers,r.step he hp rfl⟩ hk
  |false=>rw[Yh (by rw[hw];simp)];exact skip _ (zhO rfl) hk
def zBy(C:Cfg)(P:Program)(K:Out→St→Prop)(st:List Fr)(y:Code)(os:List Oper)(k:Nat):Out→St→Prop
 | .norm,s=>∃s',(Sub C s s'∨(C.Wm=[]∧∃F,Fz C.nx F s s'))∧AXr C P K (.sem y::st) ⟨os⟩ (os.drop k) s'.env s'.h
 | .exit i,s=>unst C P K st (.exit i) s
 | .ret,s=>unst C P K st .ret s
 | .panic v,s=>unst C P K st (.panic v) s
def AXa.split(k:Nat){id:Nat}{os:List Oper}{y:Code}(hm:P.follows .mixedOrders=true)(hΓ:zdw P C.Γ)(hΔ:zaP P C.Δ)(hok:zas C.nt (.seq (.region id ⟨os⟩ false) y)=true)(hx:AXr C P (zBy C P K st y os k) [] ⟨os⟩ (os.take k) env h):AXa C P K st (.seq (.region id ⟨os⟩ false) y) env h:=by
 simp only[zas,Yg]at hok;refine AX.seq fun base D g0 H0 w0 g a w he r=>wp_region ?_;have hy:∀o s,unst C P K (.sem y::st) o s→zgO (fun s=>AX C P y s (unst C P K st)) (unst C P K st) o s:=fun o s hk=>by
  cases o with
  |norm=>exact hk
  |exit i=>exact hk
  |ret=>exact hk
  |panic v=>exact hk
 have hq:∀e a w,Aft C base D g0 H0 w0 (zb1 C.keep (unst C P K (.sem y::st))) e a w→Aft C base D g0 H0 w0 (zgO (fun s=>AX C P y s (unst C P K st)) (unst C P K st)) e a w:=fun e a w ⟨o,s,g,h1,h2,h3⟩=>by
  cases o with
  |norm=>exact⟨.norm,s.trim C.keep,g,hy .norm _ h1,h2,h3.env.trim C.keep,h3.defers,h3.post⟩
  |exit i=>exact⟨_,s,g,hy (.exit i) _ h1,h2,h3⟩
  |ret=>exact⟨_,s,g,hy .ret _ h1,h2,h3⟩
  |panic v=>exact⟨_,s,g,hy (.panic v) _ h1,h2,h3⟩
 have hd:=zbC hok.1.1;have hlen:(⟨os⟩:Array Oper).size=os.length:=rfl;rw[Yco,hlen];by_cases hk:k≤os.length
 ·have hr:List.range' 0 os.length=List.range' 0 (os.take k).length++List.range' k (os.drop k).length:=by rw[Yx,YI,Ya0 hk];have:=@List.range'_append_1 0 k (os.length-k);rw[Yan]at this;rw[this];congr 1;omega
  rw[hr];refine zfW (K:=zb1 C.keep (zBy C P K st y os k)) he ⟨hΓ,hΔ⟩ hd _ _ (os.drop k) (fun s g a w r hk2=>?_) (fun e a w ⟨o,s,g,h1,h2,h3⟩=>?_) (os.take k) 0 Zs ⟨env,h⟩ g a w r hx
  ·obtain⟨s',hs,hx'⟩:=hk2;have r1:Rel C base D g0 H0 w0 g (s.trim C.keep) a w:=⟨r.env.trim C.keep,r.defers,r.post⟩;have hR:∃g',Rel C base D g0 H0 w0 g' s' a w:=by
    rcases hs with hs|⟨hW,F,hs⟩
    ·exact r1.sub he hs
    exact r1.freeze3 he (fun b hb=>by rw[hW]at hb;cases hb) hs.two
   obtain⟨g',r'⟩:=hR;exact zfi he ⟨hΓ,hΔ⟩ hd _ hq (os.drop k) k rfl s' g' a w r' hx'
  cases o with
  |norm=>exact h1.elim
  |exit i=>exact⟨.exit i,s,g,h1,h2,h3⟩
  |ret=>exact⟨.ret,s,g,h1,h2,h3⟩
  |panic v=>exact⟨.panic v,s,g,h1,h2,h3⟩
 have ht:os.take k=os:=Yl Zo;have hdk:os.drop k=[]:=Yby Zo;rw[ht]at hx;have hr:List.range' 0 os.length=List.range' 0 os.length++[]:=Zs;rw[hr];refine zfW (K:=zb1 C.keep (zBy C P K st y os k)) he ⟨hΓ,hΔ⟩ hd _ _ [] (fun s g a w r hk2=>?_) (fun e a w ⟨o,s,g,h1,h2,h3⟩=>?_) os 0 Zs ⟨env,h⟩ g a w r hx
 ·obtain⟨s',hs,hx'⟩:=hk2;have r1:Rel C base D g0 H0 w0 g (s.trim C.keep) a w:=⟨r.env.trim C.keep,r.defers,r.post⟩;have hR:∃g',Rel C base D g0 H0 w0 g' s' a w:=by
   rcases hs with hs|⟨hW,F,hs⟩
   ·exact r1.sub he hs
   exact r1.freeze3 he (fun b hb=>by rw[hW]at hb;cases hb) hs.two
  obtain⟨g',r'⟩:=hR;rw[hdk]at hx';exact zfi (ops:=⟨os⟩) he ⟨hΓ,hΔ⟩ hd _ hq [] os.length Zs s' g' a w r' hx'
 cases o with
 |norm=>exact h1.elim
 |exit i=>exact⟨.exit i,s,g,h1,h2,h3⟩
 |ret=>exact⟨.ret,s,g,h1,h2,h3⟩
 |panic v=>exact⟨.panic v,s,g,h1,h2,h3⟩
def AXr.mono {K K':Out→St→Prop}{ops:Array Oper}:∀ {os:List Oper} {env:Env} {h:Hp},(∀o s,K o s→K' o s)→AXr C P K [] ops os env h→AXr C P K' [] ops os env h:=by
 have key:∀(os:List Oper)(s:St)(K K':Out→St→Prop),(∀o s,K o s→K' o s)→ARun C P ops os s K→ARun C P ops os s K':=by
  intro os;induction os with
  |nil=>intro s K K' hk h;exact hk _ _ h
  |cons o os ih=>
   intro s K K' hk h;unfold ARun at h ⊢;split at h
   ·unfold fol at h ⊢;split at h
    ·exact⟨h.1,h.2.1,ih _ _ _ hk h.2.2⟩
    ·exact⟨h.1,hk _ _ h.2⟩
    exact h
   split at h
   ·unfold folG at h ⊢;split at h
    ·exact⟨h.1,ih _ _ _ hk h.2⟩
    ·split at h
     ·rename_i hb;rw[Yi hb];exact⟨h.1,h.2.1,ih _ _ _ hk h.2.2⟩
     rename_i hb;rw[Yh hb];exact ih _ _ _ hk h
    ·split at h
     ·rename_i hb;rw[Yi hb];exact⟨h.1,hk _ _ h.2⟩
     rename_i hb;rw[Yh hb];exact ih _ _ _ hk h
    exact⟨h.1,ih _ _ _ hk h.2⟩
   exact h
 intro os env h hk hx;refine key os ⟨env,h⟩ _ _ (fun o s k=>?_) hx;cases o with
 |norm=>exact hk _ _ k
 |exit i=>exact hk _ _ k
 |ret=>exact hk _ _ k
 |panic v=>exact hk _ _ k
def skV:SR→V
 | .ok true _ v _ _=>.opt false v
 |_=>undefV
def zsx {ops:Array Oper}{os:List Oper}(d:Tmp)(r:SR):AXg1 C P K st ops os (some d) (some false) r env h=AXr C P K st ops os ((d,skV r)::env) h:=by
 apply propext;cases r with
 |ok st' pre v h' f=>
  cases st' with
  |true=>exact⟨fun k=>k.2,fun k=>⟨fun e=>(by cases e),k⟩⟩
  |false=>exact Iff.rfl
 |pan pre v R=>exact Iff.rfl
 |bad=>exact⟨fun k=>k.2,fun k=>⟨rfl,k⟩⟩
def zxk(a:V)(y:Bool)(H:Hp):zc9 (.opt true (.bool false)) a (.bool y) H=.ok true True (.bool y) H ⟨[],[],0,0⟩:=by unfold zc9;cases ha:a.val<;>simp[V.val,V.cond]
attribute [go_sem] List.take_succ_cons List.drop_succ_cons
end Go.Ab

namespace Go.Ab
variable {P:Program}{C:Cfg}{K:Out→St→Prop}{st:List Fr}{env:Env}{h:Hp}
def KToF {α:Type}(C:Cfg)(P:Program)(K:Out→St→Prop)(st:List Fr)(p:α→Prop)(S:α→St):Out→St→Prop
 | .norm,s=>∃i,p i∧(Sub C s (S i)∨(C.Wm=[]∧∃F,Fz C.nx F s (S i)))
 | .exit i,s=>unst C P K st (.exit i) s
 | .ret,s=>unst C P K st .ret s
 | .panic v,s=>unst C P K st (.panic v) s
def zei {α:Type}{p:α→Prop}{S:α→St}{s:St}(i:α)(hi:p i)(hs:Sub C s (S i)):KToF C P K st p S .norm s:=⟨i,hi,.inl hs⟩
def AXa.cutF {α:Type}(n:Nat)(pr:α→Prop)(env':α→Env)(h':α→Hp){y p q:Code}(hn:takeC n y=some (p,q))(hm:P.follows .mixedOrders=true)(hΓ:zdw P C.Γ)(hΔ:zaP P C.Δ)(hok:zas C.nt y=true) (hx:AXs C P (KToF C P K st pr fun i=>⟨env' i,h' i⟩) [] p env h) (hc:∀i,pr i→AXa C P K st q (env' i) (h' i)):AXa C P K st y env h:=
 zkh hm ⟨hΓ,hΔ⟩ n y p q ⟨env,h⟩ _ _ hn hok hx fun o s k=>by
  cases o with
  |norm=>
   obtain⟨i,hi,k⟩:=k;rcases k with k|⟨hW,F,k⟩
   ·exact AX.sub k (hc i hi)
   exact AX.freeze hW k (hc i hi)
  |exit i=>exact k
  |ret=>exact k
  |panic v=>exact k
def XA {nt:Nat}(keep:ZN)(fz:ZN)(nx:Nat)(W:ZN){Γ:FuncId→ZA→Option PR}{Δ:FuncId→ZA→Hp→Option AR}{f:FuncId}{fn:Func}{c:Code}{args:ZA}{F:List Blk}{v:V}{Hc:Hp}{rs:List ResultVar} (hm:P.follows .mixedOrders=true) (hΓ:zdw P Γ) (hΔ:zaP P Δ) (hc:zk P f) (hf:P.funcs[f]? =some fn) (hb:fn.body=some c) (hnt:fn.ntmps=nt) (hrs:fn.results.toList=rs) (hok:zas nt c=true) (hle:args.length≤nt) (hnx:nx=F.length) (hW:∀b∈W,b<F.length) (hn:F.length≤Hc.next) (h:AXa ⟨nt,zbE keep,Γ,Δ,nx,W,zbE fz,[]⟩ P (EndN ⟨nt,zbE keep,Γ,Δ,nx,W,zbE fz,[]⟩ P rs v Hc) [] c (zbY 0 args) ⟨numB 0 F,nx⟩):NCall P f args F W v Hc:=by
 subst hnx;refine NCall.of (C:=⟨nt,zbE keep,Γ,Δ,F.length,W,zbE fz,[]⟩) hc hf hb hnt hle rfl hW hn rfl ?_;refine AX.mono h fun o s hk=>?_;subst hrs;cases o with
 |norm=>obtain⟨env',h1,h2,h3⟩:=hk;exact⟨.inl rfl,_,h1,rfl,h2,h3⟩
 |ret=>obtain⟨env',h1,h2,h3⟩:=hk;exact⟨.inr rfl,_,h1,rfl,h2,h3⟩
 |exit i=>exact hk.elim
 |panic v=>exact hk.elim
end Go.Ab

namespace Go.Proofs
open Tryz Go.Ab Go.Pl
def ztM(x:V)(H:Hp):HCall prog 211 [x] H ⟨True,x,H,[],[]⟩:=by
 refine⟨fun _=>Stat.refl H,fun _ g base D w vs hgl hI hvs hpw hD=>?_⟩;obtain⟨v,hv,rv⟩:=hpw 0 _ rfl;have hvs':vs=#[v]:=by
  apply YaD;intro i;match i with
  |0=>exact hv
  |i+1=>rw[Yv (by simp at hvs;omega),Yv Zs]
 subst hvs';refine .inr ⟨v,w,?_,g,v,rfl,rv,Post.refl hI rfl rfl (.refl _) rfl⟩;rw[run_callFunc_extern (fn:=Tryz.f211) func211 Zk rfl rfl (e:=Go.Extern.AbiNoEscape.same) Zk,Lib.run_noEscape];rfl
def zBw(args:ZA)(H:Hp)(r:AR):Prop:=∃x,args=[x]∧r=⟨True,x,H,[],[]⟩
def zxL:∀args H r,zBw args H r→HCall prog 211 args H r:=by rintro args H r ⟨x,rfl,rfl⟩;exact ztM x H
def ΔN:FuncId→ZA→Hp→Option AR:=za8 211 (conD zBw) noΔ
def ΔN_ok:zaP prog ΔN:=zJ (zV zxL) zf
@[go_sem]def ΔN_eq(x:V)(H:Hp):ΔN 211 [x] H=some ⟨True,x,H,[],[]⟩:=zat (R:=zBw) ⟨x,rfl,rfl⟩ fun r' ⟨x',e1,e2⟩=>by simp at e1;rw[e2,e1]
theorem ptr_e1(H:Hp):aBin prog .eql 204 .nilP .nilP H=⟨True,.bool true,H,[],[]⟩:=Zk
def ptr_e2(H:Hp):aBin prog .eql 204 (.ptr 0 0) .nilP H=⟨True,.bool false,H,[],[]⟩:=Zk
def ptr_e3(H:Hp):aBin prog .neq 204 (.ptr 0 0) (.ptr 0 0) H=⟨True,.bool false,H,[],[]⟩:=Zk
def ptr_c1(a b:V):zcy prog 204 221 (.ptr 0 0) ⟨[(0,.ty 206 [a,b])],1⟩=⟨True,.ptr 0 0,⟨[(0,.ty 206 [a,b])],1⟩,[0],[]⟩:=Zk
def ptr_c2(a b:V):zcy prog 221 204 (.ptr 0 0) ⟨[(0,.ty 206 [a,b])],1⟩=⟨True,.ptr 0 0,⟨[(0,.ty 206 [a,b])],1⟩,[0],[]⟩:=Zk
def zmC {π:Nat→Nat}{N:Nat→Prop}(t:TypeId)(cs cs':ZA):RnB π N (.ty t cs) (.ty t cs')↔LRel (Rn π N) cs cs':=⟨fun h=>by cases h;assumption,.ty⟩
attribute [local go_sem] zmC
def zad(l:ZL):∀x∈l.map zt,Pure x:=fun x h=>by obtain⟨c,_,rfl⟩:=Yab.1 h;exact .int _ _
def zuZ:NCall prog 197 [.ptr 0 0] [.ty 206 [.nilP,.nilS]] [0] (.tup []) ⟨[(0,.ty 206 [.ptr 0 0,.nilS])],1⟩:=by refine Xi (rs:=[]) [0,6,19] [] 1 [0] mixed (zh) (ΔN_ok) zzI func197 rfl ntmps197 rfl Zk Zs Zs Zs Zs ?_;simp only[go_sem,ptr_e1,ptr_e2,ptr_e3,ptr_c1,ptr_c2];exact⟨rfl,[],Sub.of [] rfl Zg Zg Zd (fun b hb hw=>absurd (YaH.1 hb) (by simpa using hw))⟩
def zuY(n:Nat)(l:ZL):NCall prog 197 [.ptr 0 0] [.ty 206 [.ptr 0 0,.sl 1 0 n 1 none],.ty 5 (l.map zt)] [] (.tup []) ⟨[(0,.ty 206 [.ptr 0 0,.sl 1 0 n 1 none]),(1,.ty 5 (l.map zt))],2⟩:=by
 refine Xi (rs:=[]) [0,6,19] [] 2 [] mixed (zh) (ΔN_ok) zzI func197 rfl ntmps197 rfl Zk Zs Zs Zs Zs ?_;simp only[go_sem,ptr_e1,ptr_e2,ptr_e3];refine⟨[],Sub.of [] rfl Zg ?_ Zd (fun b hb hw=>?_)⟩
 ·simp only[go_sem];exact zA (zad l)
 match b,hb with
 |0,_=>rfl
 |1,_=>rfl
def bl0:Blk:=.ty 206 [.nilP,.nilS]
def bl1(b c n:Nat):Blk:=.ty 206 [.ptr b 0,.sl c 0 n 1 none]
def bly(l:ZL):Blk:=.ty 5 (l.map zt)
def zfT {π:Nat→Nat}{N:Nat→Prop}{b c n:Nat}(hb:N b)(hc:N c):RnB π N (bl1 b c n) (bl1 (π b) (π c) n):=by
 refine .ty ⟨rfl,fun i x y hx hy=>?_⟩;match i with
 |0=>cases hx;cases hy;exact .ptr hb
 |1=>cases hx;cases hy;exact .sl hc (.inl rfl)
 |i+2=>simp at hx
def zbo {π:Nat→Nat}{N:Nat→Prop}(l:ZL):RnB π N (bly l) (bly l):=.ty (zA (zad l))
def zct {π:Nat→Nat}{N:Nat→Prop}{b c:Nat}{r:ZA}(hb:N b)(hc:π b=c)(hr:∀x∈r,Pure x):LRel (Rn π N) (.ptr b 0::r) (.ptr c 0::r):=by
 subst hc;refine⟨rfl,fun i x y hx hy=>?_⟩;match i with
 |0=>cases hx;cases hy;exact .ptr hb
 |i+1=>simp only[YaI]at hx hy;rw[hx]at hy;cases hy;exact .same (hr _ (Y0 hx))
def idx1 {b c:Nat}(h:b≠c):List.idxOf c [b,c]=1:=by
 have h1:(b==c)=false:=by simpa using h
 rw[List.idxOf_cons,h1];simp
def CcR(args:ZA)(H:Hp)(r:AR):Prop:=∃b,args=[.ptr b 0]∧(∀b x,H.get b=some x→b<H.next)∧
 ((H.get b=some bl0∧r=⟨True,.tup [],H.put b (.ty 206 [.ptr b 0,.nilS]),[b],[b]⟩)∨
  ∃c n l,b≠c∧H.get b=some (bl1 b c n)∧H.get c=some (bly l)∧r=⟨True,.tup [],H,[b,c],[]⟩)
def ccR_ok:∀args H r,CcR args H r→HCall prog 197 args H r:=by
 rintro args H r ⟨b,rfl,hk,h⟩;rcases h with⟨hb,rfl⟩|⟨c,n,l,hne,hb,hc,rfl⟩
 ·have tc:zu [b] H.next b=0:=by unfold zu;rw[Yi (hk b _ hb)];simp
  refine HCall.of zuZ [b] _ (.tup []) H (H.put b (.ty 206 [.ptr b 0,.nilS])) rfl Zs (zct Zd rfl Zs) (fun i x hx=>?_) (.same (.tup Zs)) rfl (fun b' x' hx'=>?_) (fun b' hb' hw=>?_)
  ·match i with
   |0=>cases hx;exact⟨b,_,rfl,hb,.ty (zA (by simp[zhI,zed]))⟩
   |i+1=>simp at hx
  ·rw[Xe]at hx';split at hx'
   ·rename_i he;subst he;rw[hb]at hx';cases hx';refine .inr ⟨.inl Zs,.ty 206 [.ptr 0 0,.nilS],?_,.ty ?_⟩
    ·rw[tc];rfl
    exact zct (.inl Zs) tc (by simp[zed])
   rename_i he;exact .inl ⟨hk b' _ hx',by simpa using he,hx'⟩
  rw[Xe,Yh (by simpa using hw)]
 have tb:zu [b,c] H.next b=0:=by unfold zu;rw[Yi (hk b _ hb)];simp
 have tc:zu [b,c] H.next c=1:=by unfold zu;rw[Yi (hk c _ hc)];exact idx1 hne
 refine HCall.of (zuY n l) [b,c] _ (.tup []) H H rfl (by simpa using hne) (zct (YaW _) rfl Zs) (fun i x hx=>?_) (.same (.tup Zs)) rfl (fun b' x' hx'=>?_) (fun b' hb' hw=>rfl)
 ·match i with
  |0=>cases hx;exact⟨b,_,rfl,hb,zfT (π:=fun i=>[b,c].getD i 0) (b:=0) (c:=1) (YaW _) (Yz _)⟩
  |1=>cases hx;exact⟨c,_,rfl,hc,zbo l⟩
  |i+2=>simp at hx
 by_cases h1:b'=b
 ·subst h1;rw[hb]at hx';cases hx';refine .inr ⟨.inl Zs,bl1 0 1 n,?_,?_⟩
  ·rw[tb];rfl
  have:=zfT (π:=zu [b',c] H.next) (N:=fun b=>b∈[b',c]∨(H.next≤b∧b<H.next)) (b:=b') (c:=c) (n:=n) (.inl Zs) (.inl Zs);rwa [tb,tc]at this
 by_cases h2:b'=c
 ·subst h2;rw[hc]at hx';cases hx';refine .inr ⟨.inl Zs,bly l,?_,zbo l⟩;rw[tc];rfl
 exact .inl ⟨hk b' _ hx',by simp[h1,h2],hx'⟩
def zr3 {args:ZA}{H:Hp}{r r':AR}(h:CcR args H r)(h':CcR args H r'):r'=r:=by
 obtain⟨b,rfl,_,h⟩:=h;obtain⟨b',he,_,h'⟩:=h';simp only[Yw,V.ptr.injEq,Yap]at he;subst he;rcases h with⟨hb,rfl⟩|⟨c,n,l,hne,hb,hc,rfl⟩
 ·rcases h' with⟨hb',rfl⟩|⟨c',n',l',hne',hb',hc',rfl⟩
  ·rfl
  rw[hb]at hb';simp[bl0,bl1]at hb'
 rcases h' with⟨hb',rfl⟩|⟨c',n',l',hne',hb',hc',rfl⟩
 ·rw[hb]at hb';simp[bl0,bl1]at hb'
 rw[hb]at hb';simp[bl1]at hb';rw[hb'.1]
def ΔC:FuncId→ZA→Hp→Option AR:=za8 197 (conD CcR) noΔ
def zvJ:zaP prog ΔC:=zJ (zV ccR_ok) zf
def ΔC_A:ΔC 197 [.ptr 0 0] ⟨[(0,.ty 206 [.nilP,.nilS])],1⟩=some ⟨True,.tup [],⟨[(0,.ty 206 [.ptr 0 0,.nilS])],1⟩,[0],[0]⟩:=by have hr:CcR [.ptr 0 0] ⟨[(0,.ty 206 [.nilP,.nilS])],1⟩ ⟨True,.tup [],⟨[(0,.ty 206 [.ptr 0 0,.nilS])],1⟩,[0],[0]⟩:=⟨0,rfl,zaX rfl,.inl ⟨rfl,rfl⟩⟩;exact zat hr fun _ h'=>zr3 hr h'
def ΔC_B(n:Nat)(l:ZL):ΔC 197 [.ptr 0 0] ⟨[(0,.ty 206 [.ptr 0 0,.sl 1 0 n 1 none]),(1,.ty 5 (l.map zt))],2⟩=some ⟨True,.tup [],⟨[(0,.ty 206 [.ptr 0 0,.sl 1 0 n 1 none]),(1,.ty 5 (l.map zt))],2⟩,[0,1],[]⟩:=by have hr:CcR [.ptr 0 0] ⟨[(0,.ty 206 [.ptr 0 0,.sl 1 0 n 1 none]),(1,.ty 5 (l.map zt))],2⟩ ⟨True,.tup [],⟨[(0,.ty 206 [.ptr 0 0,.sl 1 0 n 1 none]),(1,.ty 5 (l.map zt))],2⟩,[0,1],[]⟩:=⟨0,rfl,zaX rfl,.inr ⟨1,n,l,Zd,rfl,rfl,rfl⟩⟩;exact zat hr fun _ h'=>zr3 hr h'
def zho {C:Cfg}{P:Program}{env:Env}{H:Hp}(x:Operand)(ts:Array TypeId):step1 C P env (.call { callee:=.builtin .unsafeSliceData,args:=⟨[x]⟩,argTypes:=ts }) H=mkSR false (ev env x).cond (XR.ar H (za9 (ev env x).val H)) H:=zaa rfl (by simp[Op.operands,Call.operands,needs]) rfl
def zkk {C:Cfg}{P:Program}{env:Env}{H:Hp}(x y:Operand)(t u:TypeId):step1 C P env (.call { callee:=.builtin .unsafeString,args:=⟨[x,y]⟩,argTypes:=⟨[t,u]⟩ }) H=mkSR false ((ev env x).cond∧(ev env y).cond) (XR.ar H (zcn P t (ev env x).val (ev env y).val H)) H:=zaa rfl (by simp[Op.operands,Call.operands,needs]) rfl
def zms(b off n sz:Nat)(kc:Option Nat)(H:Hp)(h:0<n):XR.ar H (za9 (.sl b off n sz kc) H)=⟨True,.ptr b off,H,[],[]⟩:=by obtain⟨m,rfl⟩:∃m,n=m+1:=⟨n-1,Zo⟩;rfl
def zlQ(l:ZL):bytesOf (l.map zt)=some l:=by
 induction l with
 |nil=>rfl
 |cons c l ih=>rw[YN];show (bytesOf (l.map zt)).map (UInt8.ofNat ((c.toNat:Int)).toNat::·)=_;rw[ih];simp
def zsV(l:ZL)(h:0<l.length)(h2:l.length≤1000000)(x:Blk):∀P,P=prog→zcn P 215 (.ptr 1 0) (.int .i64 l.length) ⟨[(0,x),(1,.ty 5 (l.map zt))],2⟩=some ⟨.str l,⟨[(0,x)],2⟩,[1],[1]⟩:=by
 rintro _ rfl;have hp:prog.underlying 215=some (.pointer 5):=Zk;have hs:sizeT prog 5=some 1:=Zk;have hn:decide ((l.length:Int)=0)=false:=by rw[Yay];omega
 have ht:(l.map zt).take (l.length:Int).toNat=l.map zt:=by rw[Yp,Yl Zs]
 have hb:∀x∈l.map zt,isByte x=true:=fun x hx=>by obtain⟨c,_,rfl⟩:=Yab.1 hx;have:=c.toNat_lt;simp only[zt,isByte,Yg,Yq];exact⟨Zo,Zo⟩
 have hc:decide (True∧sizeT prog 5=some 1∧0<(l.length:Int)∧(l.length:Int)≤((l.map zt).length:Nat)∧(l.length:Int)≤9223372036854775807∧(l.map zt).all isByte=true)=true:=by rw[Yq];exact⟨trivial,hs,Zo,Zs,Zo,Yo.2 hb⟩
 have hg:Hp.get ⟨[(0,x),(1,.ty 5 (l.map zt))],2⟩ 1=some (.ty 5 (l.map zt)):=rfl;unfold zcn;simp only[hn,hp,hg,ht,zlQ];rw[hc];rfl
def zn6(l:ZL):(l.map zt).all V.one=true:=Yo.2 fun x hx=>by obtain⟨c,_,rfl⟩:=Yab.1 hx;rfl
def writeA(s:ZL)(hs:s.length≤1000000)(h0:¬s.length=0):NCall prog 186 [.ptr 0 0,.str s] [.ty 206 [.nilP,.nilS]] [0] (.tup [.int .i64 s.length,.nilI]) ⟨[(0,.ty 206 [.ptr 0 0,.sl 1 0 s.length 1 none]),(1,.ty 5 (s.map zt))],2⟩:=by
 refine Xi (rs:=[.tmp 4,.tmp 5]) [0,1,4,5] [] 1 [0] mixed (zh) (zvJ) zp7 func186 rfl ntmps186 rfl Zk Zs Zs Zs Zs ?_;simp(disch:=first|assumption|(push_cast<;>omega)|rfl|omega)only[go_sem,ΔC_A,h0];refine⟨rfl,⟨Zo,Zo,zn6 s⟩,rfl,[(4,.int .i64 s.length),(5,.nilI)],Sub.of [] rfl Zg ?_ Zd (fun b hb hw=>absurd (YaH.1 hb) (by simpa using hw)),rfl⟩;simp only[go_sem];exact zA (zad s)
def writeB(l s:ZL)(hl:l.length≤1000000)(hs:s.length≤1000000)(h0:¬s.length=0):NCall prog 186 [.ptr 0 0,.str s] [.ty 206 [.ptr 0 0,.sl 1 0 l.length 1 none],.ty 5 (l.map zt)] [0,1] (.tup [.int .i64 s.length,.nilI]) ⟨[(0,.ty 206 [.ptr 0 0,.sl 2 0 (l.length+s.length) 1 none]),(2,.ty 5 ((l++s).map zt))],3⟩:=by
 refine Xi (rs:=[.tmp 4,.tmp 5]) [0,1,4,5] [] 2 [0,1] mixed (zh) (zvJ) zp7 func186 rfl ntmps186 rfl Zk Zs Zs Zs Zs ?_;simp(disch:=first|assumption|(push_cast<;>omega)|rfl|omega)only[go_sem,ΔC_B,h0];refine⟨⟨Zs,Zo,Zo,zn6 s⟩,rfl,rfl,[(4,.int .i64 s.length),(5,.nilI)],Sub.of [] rfl Zg ?_ Zd (fun b hb hw=>absurd hb (by match b with|0=>simp at hw|1=>simp at hw|b+2=>simp)),rfl⟩;simp only[go_sem];rw[Yl Zs,←YV];exact zA (zad _)
def writeE(l:ZL)(hl:l.length≤1000000):NCall prog 186 [.ptr 0 0,.str []] [.ty 206 [.ptr 0 0,.sl 1 0 l.length 1 none],.ty 5 (l.map zt)] [0,1] (.tup [.int .i64 0,.nilI]) ⟨[(0,.ty 206 [.ptr 0 0,.sl 1 0 l.length 1 none]),(1,.ty 5 (l.map zt))],2⟩:=by
 refine Xi (rs:=[.tmp 4,.tmp 5]) [0,1,4,5] [] 2 [0,1] mixed (zh) (zvJ) zp7 func186 rfl ntmps186 rfl Zk Zs Zs Zs Zs ?_;simp(disch:=first|assumption|(push_cast<;>omega)|rfl|omega)only[go_sem,ΔC_B];refine⟨rfl,[(4,.int .i64 0),(5,.nilI)],Sub.of [] rfl Zg ?_ Zd (fun b hb hw=>absurd hb (by match b with|0=>simp at hw|1=>simp at hw|b+2=>simp)),rfl⟩;simp only[go_sem];exact zA (zad l)
def stringB(l:ZL)(hl:l.length≤1000000)(h0:0<l.length):NCall prog 188 [.ptr 0 0] [.ty 206 [.ptr 0 0,.sl 1 0 l.length 1 none],.ty 5 (l.map zt)] [1] (.str l) ⟨[(0,.ty 206 [.ptr 0 0,.sl 1 0 l.length 1 none])],2⟩:=by
 refine Xi (rs:=[.tmp 2]) [0,2] [] 2 [1] mixed (zh) (zf) call188 func188 rfl ntmps188 rfl Zk Zs Zs Zs Zs ?_;have hu:=fun x=>zsV l h0 hl x prog rfl;simp(disch:=first|assumption|(push_cast<;>omega)|rfl|omega)only[go_sem,zho,zkk,zms,hu];refine⟨rfl,AXk.intro Zk ?_⟩;simp(disch:=first|assumption|(push_cast<;>omega)|rfl|omega)only[go_sem];refine⟨[(2,.str l)],Sub.of [] rfl Zg Zg Zd (fun b hb hw=>?_),rfl⟩;match b,hb with
 |0,_=>rfl
 |1,_=>simp at hw
def WsR(args:ZA)(H:Hp)(r:AR):Prop:=∃b s,args=[.ptr b 0,.str s]∧s.length≤1000000∧(∀b x,H.get b=some x→b<H.next)∧
 ((H.get b=some bl0∧s≠[]∧r=⟨True,.tup [.int .i64 s.length,.nilI],(H.put b (bl1 b H.next s.length)).new (bly s),[b],[b]⟩)∨
  ∃c l,b≠c∧l.length≤1000000∧H.get b=some (bl1 b c l.length)∧H.get c=some (bly l)∧
   ((s≠[]∧r=⟨True,.tup [.int .i64 s.length,.nilI],((H.put b (bl1 b H.next (l.length+s.length))).kill c).new (bly (l++s)),[b,c],[b,c]⟩)∨
    (s=[]∧r=⟨True,.tup [.int .i64 0,.nilI],H,[b,c],[b,c]⟩)))
def wsR_ok:∀args H r,WsR args H r→HCall prog 186 args H r:=by
 rintro args H r ⟨b,s,rfl,hs,hk,h⟩;rcases h with⟨hb,h0,rfl⟩|⟨c,l,hne,hl,hb,hc,h⟩
 ·have tb:zu [b] H.next b=0:=by unfold zu;rw[Yi (hk b _ hb)];simp
  have tn:zu [b] H.next H.next=1:=by unfold zu;rw[Yh Zo];simp
  have hbn:=hk b _ hb;refine HCall.of (writeA s hs (fun e=>h0 (YB e))) [b] _ (.tup [.int .i64 s.length,.nilI]) H ((H.put b (bl1 b H.next s.length)).new (bly s)) rfl Zs (zct (YaW _) rfl (by simp[zS])) (fun i x hx=>?_) (.same (.tup (by simp[zbs,zhJ]))) (by show H.next+1+1=H.next+2;omega) (fun b' x' hx'=>?_) (fun b' hb' hw=>?_)
  ·match i with
   |0=>cases hx;exact⟨b,_,rfl,hb,.ty (zA (by simp[zhI,zed]))⟩
   |i+1=>simp at hx
  ·rw[Xd]at hx';split at hx'
   ·rename_i he;have he':b'=H.next:=he;subst he';cases hx';refine .inr ⟨.inr ⟨Yc _,Yz _⟩,bly s,?_,zbo s⟩;rw[tn];rfl
   rw[Xe]at hx';split at hx'
   ·rename_i he;subst he;rw[hb]at hx';cases hx';refine .inr ⟨.inl Zs,bl1 0 1 s.length,?_,?_⟩
    ·rw[tb];rfl
    have:=zfT (π:=zu [b'] H.next) (N:=fun b=>b∈[b']∨(H.next≤b∧b<H.next+1)) (b:=b') (c:=H.next) (n:=s.length) (.inl Zs) (.inr ⟨Yc _,Yz _⟩);rwa [tb,tn]at this
   rename_i he;exact .inl ⟨hk b' _ hx',by simpa using he,hx'⟩
  have h1:b'≠H.next:=Zo;rw[Xd,Yh (show ¬b'=(H.put b _).next from h1),Xe,Yh (by simpa using hw)]
 have tb:zu [b,c] H.next b=0:=by unfold zu;rw[Yi (hk b _ hb)];simp
 have tc:zu [b,c] H.next c=1:=by unfold zu;rw[Yi (hk c _ hc)];exact idx1 hne
 have tn:zu [b,c] H.next H.next=2:=by unfold zu;rw[Yh Zo];simp
 rcases h with⟨h0,rfl⟩|⟨rfl,rfl⟩
 ·refine HCall.of (writeB l s hl hs (fun e=>h0 (YB e))) [b,c] _ (.tup [.int .i64 s.length,.nilI]) H (((H.put b (bl1 b H.next (l.length+s.length))).kill c).new (bly (l++s))) rfl (by simpa using hne) (zct (YaW _) rfl (by simp[zS])) (fun i x hx=>?_) (.same (.tup (by simp[zbs,zhJ]))) (by show H.next+1+2=H.next+3;omega) (fun b' x' hx'=>?_) (fun b' hb' hw=>?_)
  ·match i with
   |0=>cases hx;exact⟨b,_,rfl,hb,zfT (π:=fun i=>[b,c].getD i 0) (b:=0) (c:=1) (YaW _) (Yz _)⟩
   |1=>cases hx;exact⟨c,_,rfl,hc,zbo l⟩
   |i+2=>simp at hx
  ·rw[Xd]at hx';split at hx'
   ·rename_i he;have he':b'=H.next:=he;subst he';cases hx';refine .inr ⟨.inr ⟨Yc _,Yz _⟩,bly (l++s),?_,zbo _⟩;rw[tn];rfl
   rw[Xg]at hx';split at hx'
   ·cases hx'
   rename_i hec;rw[Xe]at hx';split at hx'
   ·rename_i he;subst he;rw[hb]at hx';cases hx';refine .inr ⟨.inl Zs,bl1 0 2 (l.length+s.length),?_,?_⟩
    ·rw[tb];rfl
    have:=zfT (π:=zu [b',c] H.next) (N:=fun b=>b∈[b',c]∨(H.next≤b∧b<H.next+1)) (b:=b') (c:=H.next) (n:=l.length+s.length) (.inl Zs) (.inr ⟨Yc _,Yz _⟩);rwa [tb,tn]at this
   rename_i he;exact .inl ⟨hk b' _ hx',by simp[he,hec],hx'⟩
  have h1:b'≠H.next:=Zo;have h2:b'≠b∧b'≠c:=by simpa using hw
  rw[Xd,Yh (show ¬b'=((H.put b _).kill c).next from h1),Xg,Yh h2.2,Xe,Yh h2.1]
 refine HCall.of (writeE l hl) [b,c] _ (.tup [.int .i64 0,.nilI]) H H rfl (by simpa using hne) (zct (YaW _) rfl (by simp[zS])) (fun i x hx=>?_) (.same (.tup (by simp[zbs,zhJ]))) rfl (fun b' x' hx'=>?_) (fun b' hb' hw=>rfl)
 ·match i with
  |0=>cases hx;exact⟨b,_,rfl,hb,zfT (π:=fun i=>[b,c].getD i 0) (b:=0) (c:=1) (YaW _) (Yz _)⟩
  |1=>cases hx;exact⟨c,_,rfl,hc,zbo l⟩
  |i+2=>simp at hx
 by_cases h1:b'=b
 ·subst h1;rw[hb]at hx';cases hx';refine .inr ⟨.inl Zs,bl1 0 1 l.length,?_,?_⟩
  ·rw[tb];rfl
  have:=zfT (π:=zu [b',c] H.next) (N:=fun b=>b∈[b',c]∨(H.next≤b∧b<H.next)) (b:=b') (c:=c) (n:=l.length) (.inl Zs) (.inl Zs);rwa [tb,tc]at this
 by_cases h2:b'=c
 ·subst h2;rw[hc]at hx';cases hx';refine .inr ⟨.inl Zs,bly l,?_,zbo l⟩;rw[tc];rfl
 exact .inl ⟨hk b' _ hx',by simp[h1,h2],hx'⟩
def zex:∀ {l l':ZL},l.map zt=l'.map zt→l=l'
 |[],[],_=>rfl
 |[],_::_,h=>by simp at h
 |_::_,[],h=>by simp at h
 |a::l,b::l',h=>by
  simp only[YN,Yw]at h;have h1:=zex h.2;have h2:(a.toNat:Int)=(b.toNat:Int):=by have:=h.1;simpa[zt]using this
  have h3:a=b:=YaY.1 Zo;rw[h1,h3]
def zgQ {args:ZA}{H:Hp}{r r':AR}(h:WsR args H r)(h':WsR args H r'):r'=r:=by
 obtain⟨b,s,rfl,_,_,h⟩:=h;obtain⟨b',s',he,_,_,h'⟩:=h';simp only[Yw,V.ptr.injEq,V.str.injEq,Yap]at he;obtain⟨rfl,rfl⟩:=he;rcases h with⟨hb,h0,rfl⟩|⟨c,l,hne,hl,hb,hc,h⟩
 ·rcases h' with⟨hb',h0',rfl⟩|⟨c',l',hne',hl',hb',hc',h'⟩
  ·rfl
  rw[hb]at hb';simp[bl0,bl1]at hb'
 rcases h' with⟨hb',h0',rfl⟩|⟨c',l',hne',hl',hb',hc',h'⟩
 ·rw[hb]at hb';simp[bl0,bl1]at hb'
 rw[hb]at hb';simp only[bl1,YJ,Blk.ty.injEq,Yw,V.sl.injEq,Yaf,Yap]at hb';obtain⟨rfl,_⟩:=hb';rw[hc]at hc';simp only[bly,YJ,Blk.ty.injEq,Yaf]at hc';obtain rfl:=zex hc';rcases h with⟨h0,rfl⟩|⟨h0,rfl⟩
 ·rcases h' with⟨_,rfl⟩|⟨h1,rfl⟩
  ·rfl
  exact absurd h1 h0
 rcases h' with⟨h1,rfl⟩|⟨_,rfl⟩
 ·exact absurd h0 h1
 rfl
def StR(args:ZA)(H:Hp)(r:AR):Prop:=∃b c l,args=[.ptr b 0]∧(∀b x,H.get b=some x→b<H.next)∧b≠c∧l.length≤1000000∧0<l.length∧H.get b=some (bl1 b c l.length)∧H.get c=some (bly l)∧
 r=⟨True,.str l,H.kill c,[b,c],[c]⟩
def stR_ok:∀args H r,StR args H r→HCall prog 188 args H r:=by
 rintro args H r ⟨b,c,l,rfl,hk,hne,hl,h0,hb,hc,rfl⟩;have tb:zu [b,c] H.next b=0:=by unfold zu;rw[Yi (hk b _ hb)];simp
 have tc:zu [b,c] H.next c=1:=by unfold zu;rw[Yi (hk c _ hc)];exact idx1 hne
 refine HCall.of (stringB l hl h0) [b,c] _ (.str l) H (H.kill c) rfl (by simpa using hne) (zct (YaW _) rfl Zs) (fun i x hx=>?_) (.same (.str _)) rfl (fun b' x' hx'=>?_) (fun b' hb' hw=>?_)
 ·match i with
  |0=>cases hx;exact⟨b,_,rfl,hb,zfT (π:=fun i=>[b,c].getD i 0) (b:=0) (c:=1) (YaW _) (Yz _)⟩
  |1=>cases hx;exact⟨c,_,rfl,hc,zbo l⟩
  |i+2=>simp at hx
 ·rw[Xg]at hx';split at hx'
  ·cases hx'
  rename_i hec;by_cases h1:b'=b
  ·subst h1;rw[hb]at hx';cases hx';refine .inr ⟨.inl Zs,bl1 0 1 l.length,?_,?_⟩
   ·rw[tb];rfl
   have:=zfT (π:=zu [b',c] H.next) (N:=fun b=>b∈[b',c]∨(H.next≤b∧b<H.next)) (b:=b') (c:=c) (n:=l.length) (.inl Zs) (.inl Zs);rwa [tb,tc]at this
  exact .inl ⟨hk b' _ hx',by simp[h1,hec],hx'⟩
 have h2:b'≠c:=by simpa using hw
 rw[Xg,Yh h2]
def stR_uniq {args:ZA}{H:Hp}{r r':AR}(h:StR args H r)(h':StR args H r'):r'=r:=by obtain⟨b,c,l,rfl,_,_,_,_,hb,hc,rfl⟩:=h;obtain⟨b',c',l',he,_,_,_,_,hb',hc',rfl⟩:=h';simp only[Yw,V.ptr.injEq,Yap]at he;subst he;rw[hb]at hb';simp only[bl1,YJ,Blk.ty.injEq,Yw,V.sl.injEq,Yaf,Yap]at hb';obtain⟨rfl,_⟩:=hb';rw[hc]at hc';simp only[bly,YJ,Blk.ty.injEq,Yaf]at hc';obtain rfl:=zex hc';rfl
def ΔB:FuncId→ZA→Hp→Option AR:=za8 186 (conD WsR) (za8 188 (conD StR) noΔ)
def zvK:zaP prog ΔB:=zJ (zV wsR_ok) (zJ (zV stR_ok) zf)
def ΔB_0 {s:ZL}(hs:s.length≤1000000)(h0:s≠[]):ΔB 186 [.ptr 0 0,.str s] ⟨[(0,bl0)],1⟩=some ⟨True,.tup [.int .i64 s.length,.nilI],⟨[(1,bly s),(0,bl1 0 1 s.length)],2⟩,[0],[0]⟩:=by have hr:WsR [.ptr 0 0,.str s] ⟨[(0,bl0)],1⟩ ⟨True,.tup [.int .i64 s.length,.nilI],⟨[(1,bly s),(0,bl1 0 1 s.length)],2⟩,[0],[0]⟩:=⟨0,s,rfl,hs,zaX rfl,.inl ⟨rfl,h0,rfl⟩⟩;exact zat hr fun _ h'=>zgQ hr h'
def ΔB_1 {l s:ZL}(hl:l.length≤1000000)(hs:s.length≤1000000)(h0:s≠[]):ΔB 186 [.ptr 0 0,.str s] ⟨[(0,bl1 0 1 l.length),(1,bly l)],2⟩=some ⟨True,.tup [.int .i64 s.length,.nilI],⟨[(2,bly (l++s)),(0,bl1 0 2 (l.length+s.length))],3⟩,[0,1],[0,1]⟩:=by have hr:WsR [.ptr 0 0,.str s] ⟨[(0,bl1 0 1 l.length),(1,bly l)],2⟩ ⟨True,.tup [.int .i64 s.length,.nilI],⟨[(2,bly (l++s)),(0,bl1 0 2 (l.length+s.length))],3⟩,[0,1],[0,1]⟩:=⟨0,s,rfl,hs,zaX rfl,.inr ⟨1,l,Zd,hl,rfl,rfl,.inl ⟨h0,rfl⟩⟩⟩;exact zat hr fun _ h'=>zgQ hr h'
def ΔB_3 {l s:ZL}{n:Nat}(hn:n=l.length)(hl:l.length≤1000000)(hs:s.length≤1000000)(h0:s≠[]):ΔB 186 [.ptr 0 0,.str s] ⟨[(2,bly l),(0,bl1 0 2 n)],3⟩=some ⟨True,.tup [.int .i64 s.length,.nilI],⟨[(3,bly (l++s)),(0,bl1 0 3 (l.length+s.length))],4⟩,[0,2],[0,2]⟩:=by subst hn;have hr:WsR [.ptr 0 0,.str s] ⟨[(2,bly l),(0,bl1 0 2 l.length)],3⟩ ⟨True,.tup [.int .i64 s.length,.nilI],⟨[(3,bly (l++s)),(0,bl1 0 3 (l.length+s.length))],4⟩,[0,2],[0,2]⟩:=⟨0,s,rfl,hs,zaX rfl,.inr ⟨2,l,Zd,hl,rfl,rfl,.inl ⟨h0,rfl⟩⟩⟩;exact zat hr fun _ h'=>zgQ hr h'
def ΔB_e {l:ZL}(hl:l.length≤1000000):ΔB 186 [.ptr 0 0,.str []] ⟨[(0,bl1 0 1 l.length),(1,bly l)],2⟩=some ⟨True,.tup [.int .i64 0,.nilI],⟨[(0,bl1 0 1 l.length),(1,bly l)],2⟩,[0,1],[0,1]⟩:=by have hr:WsR [.ptr 0 0,.str []] ⟨[(0,bl1 0 1 l.length),(1,bly l)],2⟩ ⟨True,.tup [.int .i64 0,.nilI],⟨[(0,bl1 0 1 l.length),(1,bly l)],2⟩,[0,1],[0,1]⟩:=⟨0,[],rfl,Zs,zaX rfl,.inr ⟨1,l,Zd,hl,rfl,rfl,.inr ⟨rfl,rfl⟩⟩⟩;exact zat hr fun _ h'=>zgQ hr h'
def ΔB_s {l:ZL}(hl:l.length≤1000000)(h0:0<l.length):ΔB 188 [.ptr 0 0] ⟨[(0,bl1 0 1 l.length),(1,bly l)],2⟩=some ⟨True,.str l,⟨[(0,bl1 0 1 l.length)],2⟩,[0,1],[1]⟩:=by have hr:StR [.ptr 0 0] ⟨[(0,bl1 0 1 l.length),(1,bly l)],2⟩ ⟨True,.str l,⟨[(0,bl1 0 1 l.length)],2⟩,[0,1],[1]⟩:=⟨0,1,l,rfl,zaX rfl,Zd,hl,h0,rfl,rfl,rfl⟩;exact zat hr fun _ h'=>stR_uniq hr h'
end Go.Proofs
