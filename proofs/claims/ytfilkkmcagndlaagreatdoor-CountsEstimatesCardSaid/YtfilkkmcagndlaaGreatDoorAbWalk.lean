/- Walks of calls that read the caller's blocks and hand out a new one; their contracts at any heap. -/
import Derived.Test.YtfilkkmcagndlaaGreatDoorAbRules
import Derived.Test.YtfilkkmcagndlaaGreatDoorAbCall
import Derived.Test.YtfilkkmcagndlaaGreatDoorPlCnt
set_option linter.all false
namespace Go.Ab
variable {P:Program}
def EndN(C:Cfg)(P:Program)(rs:List ResultVar)(v:V)(Hc:Hp):Out→St→Prop
 | .norm,s| .ret,s=>∃ env',Sub C s ⟨env',Hc⟩∧(resL P ⟨env',Hc⟩ rs).1∧tupV (resL P ⟨env',Hc⟩ rs).2=v
 |_,_=>False
theorem endN_ret {C:Cfg}(rs:List ResultVar)(v:V)(Hc:Hp)(s:St):EndN C P rs v Hc .ret s=∃ env',Sub C s ⟨env',Hc⟩∧(resL P ⟨env',Hc⟩ rs).1∧tupV (resL P ⟨env',Hc⟩ rs).2=v:=rfl
theorem zyL {C:Cfg}(rs:List ResultVar)(v:V)(Hc:Hp)(s:St):EndN C P rs v Hc .norm s=∃ env',Sub C s ⟨env',Hc⟩∧(resL P ⟨env',Hc⟩ rs).1∧tupV (resL P ⟨env',Hc⟩ rs).2=v:=rfl
theorem numB_nil(i:Nat):numB i []=[]:=rfl
theorem zxn(i:Nat)(x:Blk)(r:List Blk):numB i (x::r)=(i,x)::numB (i+1) r:=rfl
attribute [go_sem] endN_ret zyL numB_nil zxn
theorem NCall.walk {nt:Nat}(keep:List Nat)(fz:List Nat)(nx:Nat){Γ:FuncId→List V→Option PR}{Δ:FuncId→List V→Hp→Option AR}{f:FuncId}{fn:Func}{c:Code}{args:List V}{F:List Blk}{v:V}{Hc:Hp}{rs:List ResultVar}
 (hm:P.follows .mixedOrders=true) (hΓ:zdP P Γ) (hΔ:zbJ P Δ) (hc:zk P f) (hf:P.funcs[f]? =some fn) (hb:fn.body=some c) (hnt:fn.ntmps=nt) (hrs:fn.results.toList=rs) (hok:zaC nt c=true) (hle:args.length≤nt) (hnx:nx=F.length) (hn:F.length≤Hc.next)
 (h:AXs ⟨nt,zbP keep,Γ,Δ,nx,[],zbP fz⟩ P (EndN ⟨nt,zbP keep,Γ,Δ,nx,[],zbP fz⟩ P rs v Hc) [] c (zb9 0 args) ⟨numB 0 F,nx⟩):NCall P f args F [] v Hc:=by
 subst hnx
 refine NCall.of (C:=⟨nt,zbP keep,Γ,Δ,F.length,[],zbP fz⟩) hc hf hb hnt hle rfl (fun b hb=>by cases hb) hn ?_
 refine AX.mono (zdq (C:=⟨nt,zbP keep,Γ,Δ,F.length,[],zbP fz⟩) hm ⟨hΓ,hΔ⟩ c _ _ hok h) fun o s hk=>?_
 subst hrs
 cases o with
 |norm=>obtain⟨env',h1,h2,h3⟩:=hk;exact⟨.inl rfl,_,h1,rfl,h2,h3⟩
 |ret=>obtain⟨env',h1,h2,h3⟩:=hk;exact⟨.inr rfl,_,h1,rfl,h2,h3⟩
 |exit i=>exact hk.elim
 |panic v=>exact hk.elim
theorem NCall.walkW {nt:Nat}(keep:List Nat)(fz:List Nat)(nx:Nat)(W:List Nat){Γ:FuncId→List V→Option PR}{Δ:FuncId→List V→Hp→Option AR}{f:FuncId}{fn:Func}{c:Code}{args:List V}{F:List Blk}{v:V}{Hc:Hp}{rs:List ResultVar}
 (hm:P.follows .mixedOrders=true) (hΓ:zdP P Γ) (hΔ:zbJ P Δ) (hc:zk P f) (hf:P.funcs[f]? =some fn) (hb:fn.body=some c) (hnt:fn.ntmps=nt) (hrs:fn.results.toList=rs) (hok:zaC nt c=true) (hle:args.length≤nt) (hnx:nx=F.length) (hW:∀ b∈W,b<F.length) (hn:F.length≤Hc.next)
 (h:AXs ⟨nt,zbP keep,Γ,Δ,nx,W,zbP fz⟩ P (EndN ⟨nt,zbP keep,Γ,Δ,nx,W,zbP fz⟩ P rs v Hc) [] c (zb9 0 args) ⟨numB 0 F,nx⟩):NCall P f args F W v Hc:=by
 subst hnx
 refine NCall.of (C:=⟨nt,zbP keep,Γ,Δ,F.length,W,zbP fz⟩) hc hf hb hnt hle rfl hW hn ?_
 refine AX.mono (zdq (C:=⟨nt,zbP keep,Γ,Δ,F.length,W,zbP fz⟩) hm ⟨hΓ,hΔ⟩ c _ _ hok h) fun o s hk=>?_
 subst hrs
 cases o with
 |norm=>obtain⟨env',h1,h2,h3⟩:=hk;exact⟨.inl rfl,_,h1,rfl,h2,h3⟩
 |ret=>obtain⟨env',h1,h2,h3⟩:=hk;exact⟨.inr rfl,_,h1,rfl,h2,h3⟩
 |exit i=>exact hk.elim
 |panic v=>exact hk.elim
theorem HCall.fresh {f:FuncId}{args:List V}{F:List Blk}{X:List V}{n sz:Nat}(hN:NCall P f args F [] (.sl F.length 0 n sz none) ⟨(F.length,.cells X)::numB 0 F,F.length+1⟩)(hX:∀ x∈X,Pure x)
 (is:List Nat) (args':List V) (H:Hp) (hlen:is.length=F.length) (hnd:is.Nodup) (ha:LRel (Rn (fun i=>is.getD i 0) (· <F.length)) args args')
 (hF:∀(i:Nat) (x:Blk),F[i]? =some x→∃ b,is[i]? =some b∧H.get b=some x∧RnB (fun i=>is.getD i 0) (· <F.length) x x)
 (hF':∀(i:Nat) (x:Blk),F[i]? =some x→∀ π N,RnB π N x x) (hk:∀ b x,H.get b=some x→b<H.next):
 HCall P f args' H ⟨True,.sl H.next 0 n sz none,⟨(H.next,.cells X)::H.bs,H.next+1⟩,is,[]⟩:=by
 have tc:zaa is H.next H.next=F.length:=by unfold zaa;rw [if_neg (by omega)];omega
 refine HCall.of hN is args' (.sl H.next 0 n sz none) H ⟨(H.next,.cells X)::H.bs,H.next+1⟩ hlen hnd ha (fun i x hx=>?_) ?_ (by show H.next+1+F.length=H.next+(F.length+1);omega) (fun b x' hx'=>?_) (fun b hb _=>?_)
 ·obtain⟨b,h1,h2,h3⟩:=hF i x hx
  exact⟨b,x,h1,h2,h3⟩
 ·have:=Rn.sl (π:=zaa is H.next) (N:=fun b=>b∈is∨(H.next≤b∧b<H.next+1)) (b:=H.next) (off:=0) (len:=n) (sz:=sz) (kc:=none) (kc':=none) (.inr ⟨Nat.le_refl _,Nat.lt_succ_self _⟩) (.inl rfl)
  rwa [tc]at this
 ·by_cases hb:b=H.next
  ·subst hb
   have hxe:x'=.cells X:=by have:(((H.next,.cells X)::H.bs:List (Nat×Blk)).lookup H.next)=some x':=hx';simp at this;exact this.symm
   subst hxe
   refine .inr ⟨.inr ⟨Nat.le_refl _,Nat.lt_succ_self _⟩,.cells X,?_,.cells (zu hX)⟩
   rw [tc]
   show (((F.length,Blk.cells X)::numB 0 F).lookup F.length)=_
   simp
  ·have hg:H.get b=some x':=by
    have:(((H.next,.cells X)::H.bs:List (Nat×Blk)).lookup b)=some x':=hx'
    rw [List.lookup_cons]at this
    have hne:(b==H.next)=false:=by simpa using hb
    rw [hne]at this
    exact this
   by_cases hi:b∈is
   ·obtain⟨i,hi1,hi2⟩:=List.mem_iff_getElem.1 hi
    have hiF:i<F.length:=by omega
    obtain⟨b',k1,k2,k3⟩:=hF i F[i] (by rw [List.getElem?_eq_getElem])
    rw [List.getElem?_eq_getElem hi1,hi2]at k1
    cases k1
    rw [hg]at k2
    have hx:x'=F[i]:=Option.some.inj k2
    have htc:zaa is H.next b=i:=by unfold zaa;rw [if_pos (hk b _ hg), ←hi2,List.Nodup.idxOf_getElem hnd]
    refine .inr ⟨.inl hi,F[i],?_,?_⟩
    ·rw [htc]
     show (((F.length,Blk.cells X)::numB 0 F).lookup i)=_
     have hne:(i==F.length)=false:=by simp;omega
     rw [List.lookup_cons,hne,zd0]
     simp
    ·rw [hx];exact hF' i F[i] (by rw [List.getElem?_eq_getElem]) _ _
   ·exact .inl ⟨hk b _ hg,hi,hg⟩
 ·show (((H.next,.cells X)::H.bs:List (Nat×Blk)).lookup b)=H.get b
  rw [List.lookup_cons]
  have hne:(b==H.next)=false:=by simp;omega
  rw [hne];rfl
theorem zbA {bs:List (Nat×Blk)}{n:Nat}(h:((keysB bs).all fun b=>decide (b<n))=true):∀ b x,(⟨bs,n⟩:Hp).get b=some x→b<n:=fun b _ hx=>by have:=List.all_eq_true.1 h b (zfX hx);simpa using this
theorem HCall.none {f:FuncId}{args:List V}{F:List Blk}{v:V}(hN:NCall P f args F [] v ⟨numB 0 F,F.length⟩)(hv:Pure v)
 (is:List Nat) (args':List V) (H:Hp) (hlen:is.length=F.length) (hnd:is.Nodup) (ha:LRel (Rn (fun i=>is.getD i 0) (· <F.length)) args args')
 (hF:∀(i:Nat) (x:Blk),F[i]? =some x→∃ b,is[i]? =some b∧H.get b=some x∧RnB (fun i=>is.getD i 0) (· <F.length) x x)
 (hF':∀(i:Nat) (x:Blk),F[i]? =some x→∀ π N,RnB π N x x) (hk:∀ b x,H.get b=some x→b<H.next):
 HCall P f args' H ⟨True,v,H,is,[]⟩:=by
 refine HCall.of hN is args' v H H hlen hnd ha (fun i x hx=>?_) (.same hv) rfl (fun b x' hx'=>?_) (fun b hb _=>rfl)
 ·obtain⟨b,h1,h2,h3⟩:=hF i x hx
  exact⟨b,x,h1,h2,h3⟩
 ·by_cases hi:b∈is
  ·obtain⟨i,hi1,hi2⟩:=List.mem_iff_getElem.1 hi
   have hiF:i<F.length:=by omega
   obtain⟨b',k1,k2,k3⟩:=hF i F[i] (by rw [List.getElem?_eq_getElem])
   rw [List.getElem?_eq_getElem hi1,hi2]at k1
   cases k1
   rw [hx']at k2
   have hx:x'=F[i]:=Option.some.inj k2
   have htc:zaa is H.next b=i:=by unfold zaa;rw [if_pos (hk b _ hx'), ←hi2,List.Nodup.idxOf_getElem hnd]
   refine .inr ⟨.inl hi,F[i],?_,?_⟩
   ·rw [htc]
    show ((numB 0 F).lookup i)=_
    rw [zd0]
    simp
   ·rw [hx];exact hF' i F[i] (by rw [List.getElem?_eq_getElem]) _ _
  ·exact .inl ⟨hk b _ hx',hi,hx'⟩
theorem HCall.put1 {f:FuncId}{args:List V}{X0 X:List V}{n sz:Nat}(hN:NCall P f args [.cells X0] [0] (.sl 0 0 n sz Option.none) ⟨[(0,.cells X)],1⟩)(hX0:∀ x∈X0,Pure x)(hX:∀ x∈X,Pure x)
 (b:Nat) (args':List V) (H:Hp) (ha:LRel (Rn (fun i=>[b].getD i 0) (· <1)) args args') (hb:H.get b=some (.cells X0)) (hk:∀ b x,H.get b=some x→b<H.next):
 HCall P f args' H ⟨True,.sl b 0 n sz Option.none,H.put b (.cells X),[b],[b]⟩:=by
 have tc:zaa [b] H.next b=0:=by unfold zaa;rw [if_pos (hk b _ hb)];simp
 refine HCall.of hN [b] args' (.sl b 0 n sz Option.none) H (H.put b (.cells X)) rfl (by simp) ha (fun i x hx=>?_) ?_ rfl (fun b' x' hx'=>?_) (fun b' hb' hw=>?_)
 ·match i with
  |0=>cases hx;exact⟨b,_,rfl,hb,.cells (zu hX0)⟩
  |i+1=>simp at hx
 ·have:=Rn.sl (π:=zaa [b] H.next) (N:=fun b'=>b'∈[b]∨(H.next≤b'∧b'<(H.put b (.cells X)).next)) (b:=b) (off:=0) (len:=n) (sz:=sz) (kc:=Option.none) (kc':=Option.none) (.inl (by simp)) (.inl rfl)
  rwa [tc]at this
 ·rw [Hp.get_put]at hx'
  split at hx'
  ·rename_i he
   subst he
   rw [hb]at hx'
   cases hx'
   refine .inr ⟨.inl (by simp),.cells X,?_,.cells (zu hX)⟩
   rw [tc];rfl
  ·rename_i he
   exact .inl ⟨hk b' _ hx',by simpa using he,hx'⟩
 ·rw [Hp.get_put,if_neg (by simpa using hw)]
theorem HCall.move1 {f:FuncId}{args:List V}{X0 X:List V}{n sz:Nat}(hN:NCall P f args [.cells X0] [0] (.sl 1 0 n sz Option.none) ⟨[(1,.cells X)],2⟩)(hX0:∀ x∈X0,Pure x)(hX:∀ x∈X,Pure x)
 (b:Nat) (args':List V) (H:Hp) (ha:LRel (Rn (fun i=>[b].getD i 0) (· <1)) args args') (hb:H.get b=some (.cells X0)) (hk:∀ b x,H.get b=some x→b<H.next):
 HCall P f args' H ⟨True,.sl H.next 0 n sz Option.none,(H.kill b).new (.cells X),[b],[b]⟩:=by
 have tc:zaa [b] H.next H.next=1:=by unfold zaa;rw [if_neg (by omega)];simp
 refine HCall.of hN [b] args' (.sl H.next 0 n sz Option.none) H ((H.kill b).new (.cells X)) rfl (by simp) ha (fun i x hx=>?_) ?_ (by show H.next+1+1=H.next+2;omega) (fun b' x' hx'=>?_) (fun b' hb' hw=>?_)
 ·match i with
  |0=>cases hx;exact⟨b,_,rfl,hb,.cells (zu hX0)⟩
  |i+1=>simp at hx
 ·have:=Rn.sl (π:=zaa [b] H.next) (N:=fun b'=>b'∈[b]∨(H.next≤b'∧b'<((H.kill b).new (.cells X)).next)) (b:=H.next) (off:=0) (len:=n) (sz:=sz) (kc:=Option.none) (kc':=Option.none) (.inr ⟨Nat.le_refl _,Nat.lt_succ_self _⟩) (.inl rfl)
  rwa [tc]at this
 ·rw [Hp.get_new]at hx'
  split at hx'
  ·rename_i he
   have he':b'=H.next:=he
   subst he'
   cases hx'
   refine .inr ⟨.inr ⟨Nat.le_refl _,Nat.lt_succ_self _⟩,.cells X,?_,.cells (zu hX)⟩
   rw [tc];rfl
  ·rw [Hp.get_kill]at hx'
   split at hx'
   ·cases hx'
   ·rename_i he
    exact .inl ⟨hk b' _ hx',by simpa using he,hx'⟩
 ·have h1:b'≠H.next:=by omega
  rw [Hp.get_new]
  rw [if_neg (show ¬b'=(H.kill b).next from h1),Hp.get_kill,if_neg (by simpa using hw)]
noncomputable def conD(R:List V→Hp→AR→Prop):List V→Hp→Option AR:=fun args H=>
 open Classical in if h:∃ r,R args H r then some (Classical.choose h)else Option.none
theorem zaW {R:List V→Hp→AR→Prop}{args:List V}{H:Hp}{r:AR}(h:R args H r)(hu:∀ r',R args H r'→r'=r):conD R args H=some r:=by have hx:∃ r,R args H r:=⟨r,h⟩;unfold conD;rw [dif_pos hx,hu _ (Classical.choose_spec hx)]
theorem zbb {R:List V→Hp→AR→Prop}{f:FuncId}(h:∀ args H r,R args H r→HCall P f args H r):∀ args H r,conD R args H=some r→HCall P f args H r:=by
 intro args H r e;unfold conD at e;split at e
 ·rename_i hx;cases e;exact h _ _ _ (Classical.choose_spec hx)
 ·cases e
end Go.Ab

namespace Go.Ab
variable {P:Program}
theorem HCall.view1 {f:FuncId}{args:List V}{X:List V}{o n sz:Nat}(hN:NCall P f args [.cells X] [] (.sl 0 o n sz Option.none) ⟨[(0,.cells X)],1⟩)(hX:∀ x∈X,Pure x)
 (b:Nat) (args':List V) (H:Hp) (ha:LRel (Rn (fun i=>[b].getD i 0) (· <1)) args args') (hb:H.get b=some (.cells X)) (hk:∀ b x,H.get b=some x→b<H.next):
 HCall P f args' H ⟨True,.sl b o n sz Option.none,H,[b],[]⟩:=by
 have tc:zaa [b] H.next b=0:=by unfold zaa;rw [if_pos (hk b _ hb)];simp
 refine HCall.of hN [b] args' (.sl b o n sz Option.none) H H rfl (by simp) ha (fun i x hx=>?_) ?_ rfl (fun b' x' hx'=>?_) (fun b' hb' hw=>rfl)
 ·match i with
  |0=>cases hx;exact⟨b,_,rfl,hb,.cells (zu hX)⟩
  |i+1=>simp at hx
 ·have:=Rn.sl (π:=zaa [b] H.next) (N:=fun b'=>b'∈[b]∨(H.next≤b'∧b'<H.next)) (b:=b) (off:=o) (len:=n) (sz:=sz) (kc:=Option.none) (kc':=Option.none) (.inl (by simp)) (.inl rfl)
  rwa [tc]at this
 ·by_cases he:b'=b
  ·subst he
   rw [hb]at hx'
   cases hx'
   refine .inr ⟨.inl (by simp),.cells X,?_,.cells (zu hX)⟩
   rw [tc];rfl
  ·exact .inl ⟨hk b' _ hx',by simpa using he,hx'⟩
theorem HCall.putS {f:FuncId}{args:List V}{X0 X:List V}{v:V}(hN:NCall P f args [.cells X0] [0] v ⟨[(0,.cells X)],1⟩)(hv:Pure v)(hX0:∀ x∈X0,Pure x)(hX:∀ x∈X,Pure x)
 (b:Nat) (args':List V) (H:Hp) (ha:LRel (Rn (fun i=>[b].getD i 0) (· <1)) args args') (hb:H.get b=some (.cells X0)) (hk:∀ b x,H.get b=some x→b<H.next):
 HCall P f args' H ⟨True,v,H.put b (.cells X),[b],[b]⟩:=by
 have tc:zaa [b] H.next b=0:=by unfold zaa;rw [if_pos (hk b _ hb)];simp
 refine HCall.of hN [b] args' v H (H.put b (.cells X)) rfl (by simp) ha (fun i x hx=>?_) (.same hv) rfl (fun b' x' hx'=>?_) (fun b' hb' hw=>?_)
 ·match i with
  |0=>cases hx;exact⟨b,_,rfl,hb,.cells (zu hX0)⟩
  |i+1=>simp at hx
 ·rw [Hp.get_put]at hx'
  split at hx'
  ·rename_i he
   subst he
   rw [hb]at hx'
   cases hx'
   refine .inr ⟨.inl (by simp),.cells X,?_,.cells (zu hX)⟩
   rw [tc];rfl
  ·rename_i he
   exact .inl ⟨hk b' _ hx',by simpa using he,hx'⟩
 ·rw [Hp.get_put,if_neg (by simpa using hw)]
end Go.Ab

namespace Go.Ab
variable {C:Cfg}{P:Program}{K:Out→St→Prop}{st:List Fr}{env:Env}{h:Hp}
def takeC:Nat→Code→Option (Code×Code)
 |0,_=>none
 |n+1,.seq x y=>match n with
  |0=>some (x,y)
  |n+1=>match takeC (n+1) y with
   |some (p,q)=>if zbH x=true then none else some (.seq x p,q)
   |none=>none
 |_+1,_=>none
theorem zkS(hm:P.follows .mixedOrders=true)(hΓ:zdb P C):∀(n:Nat) (c p q:Code) (s:St) (K1 K:Out→St→Prop),takeC n c=some (p,q)→zaC C.nt c=true→AXf C P p s K1→(∀ o s,K1 o s→zhf (fun s=>AX C P q s K) K o s)→AX C P c s K
 |0,_,_,_,_,_,_,h,_,_,_=>by cases h
 |n+1,c,p,q,s,K1,K,h,hc,hx,hk1=>by
  cases c<;>try (cases h;done)
  rename_i x y;simp only [zaC,Bool.and_eq_true]at hc;cases n with
  |zero=>cases h;exact AX.seq ((zdq hm hΓ _ s _ hc.1 hx).mono hk1)
  |succ n=>
   simp only [takeC]at h;split at h
   ·rename_i p' q' e;split at h
    ·cases h
    ·rename_i hl;cases h;unfold AXf at hx;refine AX.seq ((zdq hm hΓ x s _ hc.1 hx).mono fun o s' hk=>?_);cases o with
     |norm=>
      have hk':if zbH x=true then AX C P p' s' K1 else AXf C P p' s' K1:=hk
      rw [if_neg hl]at hk';exact zkS hm hΓ (n+1) y p' q s' K1 K e hc.2 hk' hk1
     |exit i=>exact hk1 _ _ hk
     |ret=>exact hk1 _ _ hk
     |panic v=>exact hk1 _ _ hk
   ·cases h
theorem AXa.cut {y:Code}(n:Nat){p q:Code}(hn:takeC n y=some (p,q))(hm:P.follows .mixedOrders=true)(hΓ:zdP P C.Γ)(hΔ:zbJ P C.Δ)(hok:zaC C.nt y=true)(hx:AXs C P K (.sem q::st) p env h):AXa C P K st y env h:=
 zkS hm ⟨hΓ,hΔ⟩ n y p q ⟨env,h⟩ _ _ hn hok hx fun _ _ k=>k
theorem zgj {base:Nat}{D:Nat→Prop}{g0:G}{H0:Hp}{w0:World}{ops:Array Oper}{K:Out→St→Prop}(he:Entry C base D g0 H0 w0)(hΓ:zdb P C)(hd:∀ o∈ops.toList,∀ d,o.dst=some d→d<C.nt)
 (Q:Exit→Act→World→Prop) (js:List Nat) (rest:List Oper) (hN:∀ s g a w,Rel C base D g0 H0 w0 g s a w→K .norm s→wpOps P ops Q js a w)
 (hQ:∀ e a w,Aft C base D g0 H0 w0 (fun o s=>match o with| .norm=>False|o=>K o s) e a w→Q e a w):
 ∀(os:List Oper) (i:Nat),ops.toList.drop i=os++rest→∀(s:St) (g:G) (a:Act) (w:World),Rel C base D g0 H0 w0 g s a w→ARun C P ops os s K→wpOps P ops Q (List.range' i os.length++js) a w
 |[],i,_,s,g,a,w,r,h=>by simpa using hN s g a w r h
 |o::os,i,hi,s,g,a,w,r,h=>by
  have ho:ops[i]? =some o:=by
   have:(ops.toList.drop i)[0]? =some o:=by rw [hi];rfl
   rw [List.getElem?_drop]at this;rw [←Array.getElem?_toList];simpa using this
  have hos:ops.toList.drop (i+1)=os++rest:=by rw [←List.drop_drop,hi];rfl
  have hmem:o∈ops.toList:=List.mem_of_getElem? (by rw [Array.getElem?_toList];exact ho);have hdo:=hd o hmem;have hO:=r.env.ops ops o;have sem:=zcT hΓ ops o s.env s.h;rw [List.length_cons,List.range'_succ,List.cons_append];simp only [wpOps,ho];have dput:∀(b:Act) (vc:Value),b.defers=[]→(b.put o.dst vc).defers=[]:=fun b vc e=>by cases o.dst<;>exact e
  have go:∀(st:Bool) (v:V) (h':Hp) (f:Foot),ARun C P ops os ((s.put o.dst v).hp h') K→wok C f.W=true→StepSem P C.nt ops o s.env s.h st v h' f→o.wp P a w (wpOps P ops Q (List.range' (i+1) os.length++js)) Q:=by intro st v h' f hk hw hst;refine hst.exec g base _ w a _ Q r.post.inv hO (fun b _=>he.inD b) fun g' w' vc hv hp=>?_;exact zgj he hΓ hd Q js rest hN hQ os (i+1) hos ((s.put o.dst v).hp h') g' _ w' ⟨(r.env.mono hp.le).put hdo hv,dput _ _ r.defers,r.step he hp hw⟩ hk
  have pan:∀(v:V) (R:List Nat),K (.panic v) s→zkE P C.nt ops o s.env s.h v R→o.wp P a w (wpOps P ops Q (List.range' (i+1) os.length++js)) Q:=by intro v R hk hst;refine hst g base _ w a _ Q r.post.inv hO (fun b _=>he.inD b) fun g' w' vc hv hp=>?_;exact hQ _ _ _ ⟨.panic v,s,g',hk,⟨vc,hv,rfl⟩,r.env.mono hp.le,r.defers,r.step he hp rfl⟩
  have skip:∀ v,VRel g v undef→ARun C P ops os ((s.put o.dst v).hp s.h) K→wpOps P ops Q (List.range' (i+1) os.length++js) (a.put o.dst undef) w:=fun v hv hk=>
   zgj he hΓ hd Q js rest hN hQ os (i+1) hos ((s.put o.dst v).hp s.h) g _ w ⟨r.env.put hdo hv,dput _ _ r.defers,r.post⟩ hk
  unfold ARun at h;split at h
  ·rename_i hg;have hw:Region.wanted o (yielded ops a.tmps)=true:=by unfold Region.wanted;rw [hg]
   rw [if_pos hw];rcases zyD sem h with⟨st,v,h',f,hk,hwk,hst⟩|⟨v,R,hk,hst⟩
   ·exact .inl (go st v h' f hk hwk hst)
   ·exact .inl (pan v R hk hst)
  ·split at h;rotate_left;·exact h.elim
   rename_i gb hg;have hw:=zoL hO.rel hg;rcases zpT sem h with⟨rfl,st,v,h',f,hk,hwk,hst⟩|⟨rfl,v,R,hk,hst⟩|⟨rfl,hk⟩|⟨v,R,hk,hst⟩
   ·rw [if_pos hw];exact .inl (go st v h' f hk hwk hst)
   ·rw [if_pos hw];exact .inl (pan v R hk hst)
   ·rw [if_neg (by rw [hw];simp)];exact skip _ (VRel.mk_tup rfl PW.nil) hk
   ·cases gb with
    |true=>rw [if_pos hw];refine .inl ?_;refine(hst rfl).exec g base _ w a _ Q r.post.inv hO (fun b _=>he.inD b) fun g' w' vc hv hp=>?_;exact zgj he hΓ hd Q js rest hN hQ os (i+1) hos ((s.put o.dst (.opt true v)).hp s.h) g' _ w' ⟨(r.env.mono hp.le).put hdo (zpn rfl hv),dput _ _ r.defers,r.step he hp rfl⟩ hk
    |false=>rw [if_neg (by rw [hw];simp)];exact skip _ (zio rfl) hk
def zBh(C:Cfg)(P:Program)(K:Out→St→Prop)(st:List Fr)(y:Code)(os:List Oper)(k:Nat):Out→St→Prop
 | .norm,s=>∃ s',(Sub C s s'∨(C.Wm=[]∧∃ F,Fz C.nx F s s'))∧AXr C P K (.sem y::st) ⟨os⟩ (os.drop k) s'.env s'.h
 | .exit i,s=>unst C P K st (.exit i) s
 | .ret,s=>unst C P K st .ret s
 | .panic v,s=>unst C P K st (.panic v) s
theorem AXa.split(k:Nat){id:Nat}{os:List Oper}{y:Code}(hm:P.follows .mixedOrders=true)(hΓ:zdP P C.Γ)(hΔ:zbJ P C.Δ)(hok:zaC C.nt (.seq (.region id ⟨os⟩ false) y)=true)(hx:AXr C P (zBh C P K st y os k) [] ⟨os⟩ (os.take k) env h):
 AXa C P K st (.seq (.region id ⟨os⟩ false) y) env h:=by
 simp only [zaC,Bool.and_eq_true]at hok
 refine AX.seq fun base D g0 H0 w0 g a w he r=>wp_region ?_
 have hy:∀ o s,unst C P K (.sem y::st) o s→zhf (fun s=>AX C P y s (unst C P K st)) (unst C P K st) o s:=fun o s hk=>by
  cases o with
  |norm=>exact hk
  |exit i=>exact hk
  |ret=>exact hk
  |panic v=>exact hk
 have hq:∀ e a w,Aft C base D g0 H0 w0 (zcb C.keep (unst C P K (.sem y::st))) e a w→Aft C base D g0 H0 w0 (zhf (fun s=>AX C P y s (unst C P K st)) (unst C P K st)) e a w:=fun e a w ⟨o,s,g,h1,h2,h3⟩=>by
  cases o with
  |norm=>exact⟨.norm,s.trim C.keep,g,hy .norm _ h1,h2,h3.env.trim C.keep,h3.defers,h3.post⟩
  |exit i=>exact⟨_,s,g,hy (.exit i) _ h1,h2,h3⟩
  |ret=>exact⟨_,s,g,hy .ret _ h1,h2,h3⟩
  |panic v=>exact⟨_,s,g,hy (.panic v) _ h1,h2,h3⟩
 have hd:=zbN hok.1.1
 have hlen:(⟨os⟩:Array Oper).size=os.length:=rfl
 rw [List.range_eq_range',hlen]
 by_cases hk:k≤os.length
 ·have hr:List.range' 0 os.length=List.range' 0 (os.take k).length++List.range' k (os.drop k).length:=by
   rw [List.length_take,List.length_drop,Nat.min_eq_left hk]
   have:=@List.range'_append_1 0 k (os.length - k)
   rw [Nat.zero_add]at this
   rw [this];congr 1;omega
  rw [hr]
  refine zgj (K:=zcb C.keep (zBh C P K st y os k)) he ⟨hΓ,hΔ⟩ hd _ _ (os.drop k) (fun s g a w r hk2=>?_) (fun e a w ⟨o,s,g,h1,h2,h3⟩=>?_) (os.take k) 0 (by simp) ⟨env,h⟩ g a w r hx
  ·obtain⟨s',hs,hx'⟩:=hk2
   have r1:Rel C base D g0 H0 w0 g (s.trim C.keep) a w:=⟨r.env.trim C.keep,r.defers,r.post⟩
   have hR:∃ g',Rel C base D g0 H0 w0 g' s' a w:=by
    rcases hs with hs|⟨hW,F,hs⟩
    ·exact r1.sub he hs
    ·exact r1.freeze he hW hs
   obtain⟨g',r'⟩:=hR
   exact zfF he ⟨hΓ,hΔ⟩ hd _ hq (os.drop k) k rfl s' g' a w r' hx'
  ·cases o with
   |norm=>exact h1.elim
   |exit i=>exact⟨.exit i,s,g,h1,h2,h3⟩
   |ret=>exact⟨.ret,s,g,h1,h2,h3⟩
   |panic v=>exact⟨.panic v,s,g,h1,h2,h3⟩
 ·have ht:os.take k=os:=List.take_of_length_le (by omega)
  have hdk:os.drop k=[]:=List.drop_eq_nil_of_le (by omega)
  rw [ht]at hx
  have hr:List.range' 0 os.length=List.range' 0 os.length++[]:=by simp
  rw [hr]
  refine zgj (K:=zcb C.keep (zBh C P K st y os k)) he ⟨hΓ,hΔ⟩ hd _ _ [] (fun s g a w r hk2=>?_) (fun e a w ⟨o,s,g,h1,h2,h3⟩=>?_) os 0 (by simp) ⟨env,h⟩ g a w r hx
  ·obtain⟨s',hs,hx'⟩:=hk2
   have r1:Rel C base D g0 H0 w0 g (s.trim C.keep) a w:=⟨r.env.trim C.keep,r.defers,r.post⟩
   have hR:∃ g',Rel C base D g0 H0 w0 g' s' a w:=by
    rcases hs with hs|⟨hW,F,hs⟩
    ·exact r1.sub he hs
    ·exact r1.freeze he hW hs
   obtain⟨g',r'⟩:=hR
   rw [hdk]at hx'
   exact zfF (ops:=⟨os⟩) he ⟨hΓ,hΔ⟩ hd _ hq [] os.length (by simp) s' g' a w r' hx'
  ·cases o with
   |norm=>exact h1.elim
   |exit i=>exact⟨.exit i,s,g,h1,h2,h3⟩
   |ret=>exact⟨.ret,s,g,h1,h2,h3⟩
   |panic v=>exact⟨.panic v,s,g,h1,h2,h3⟩
theorem AXr.mono {K K':Out→St→Prop}{ops:Array Oper}:∀ {os:List Oper} {env:Env} {h:Hp},(∀ o s,K o s→K' o s)→AXr C P K [] ops os env h→AXr C P K' [] ops os env h:=by
 have key:∀(os:List Oper) (s:St) (K K':Out→St→Prop),(∀ o s,K o s→K' o s)→ARun C P ops os s K→ARun C P ops os s K':=by
  intro os;induction os with
  |nil=>intro s K K' hk h;exact hk _ _ h
  |cons o os ih=>
   intro s K K' hk h;unfold ARun at h ⊢;split at h
   ·unfold fol at h ⊢;split at h
    ·exact⟨h.1,h.2.1,ih _ _ _ hk h.2.2⟩
    ·exact⟨h.1,hk _ _ h.2⟩
    ·exact h
   ·split at h
    ·unfold folG at h ⊢;split at h
     ·exact⟨h.1,ih _ _ _ hk h.2⟩
     ·split at h
      ·rename_i hb;rw [if_pos hb];exact⟨h.1,h.2.1,ih _ _ _ hk h.2.2⟩
      ·rename_i hb;rw [if_neg hb];exact ih _ _ _ hk h
     ·split at h
      ·rename_i hb;rw [if_pos hb];exact⟨h.1,hk _ _ h.2⟩
      ·rename_i hb;rw [if_neg hb];exact ih _ _ _ hk h
     ·exact⟨h.1,ih _ _ _ hk h.2⟩
    ·exact h
 intro os env h hk hx;refine key os ⟨env,h⟩ _ _ (fun o s k=>?_) hx;cases o with
 |norm=>exact hk _ _ k
 |exit i=>exact hk _ _ k
 |ret=>exact hk _ _ k
 |panic v=>exact hk _ _ k
def skV:SR→V
 | .ok true _ v _ _=>.opt false v
 |_=>undefV
theorem zhK {ops:Array Oper}{os:List Oper}(d:Tmp)(r:SR):AXg1 C P K st ops os (some d) (some false) r env h=AXr C P K st ops os ((d,skV r)::env) h:=by
 apply propext;cases r with
 |ok st' pre v h' f=>
  cases st' with
  |true=>exact⟨fun k=>k.2,fun k=>⟨fun e=>(by cases e),k⟩⟩
  |false=>exact Iff.rfl
 |pan pre v R=>exact Iff.rfl
 |bad=>exact⟨fun k=>k.2,fun k=>⟨rfl,k⟩⟩
theorem zim(a:V)(y:Bool)(H:Hp):zcZ (.opt true (.bool false)) a (.bool y) H=.ok true True (.bool y) H ⟨[],[],0,0⟩:=by unfold zcZ;cases ha:a.val<;>simp [V.val,V.cond]
attribute [go_sem] List.take_succ_cons List.drop_succ_cons
end Go.Ab

namespace Go.Cnt
def insS:List Str→Str→List Str
 |[],s=>[s]
 |x::l,s=>if Op.bytesLess x s=true then x::insS l s else if x=s then x::l else s::x::l
def addS(l:List Str)(s:Str):List Str:=if s=[]then l else insS l s
def IncS(l:List Str):Prop:=l.Pairwise fun a b=>Op.bytesLess a b=true
def nmS(L:List Str):List Str:=L.foldl addS []
theorem mem_insS:∀ {l:List Str} {s y:Str},y∈insS l s↔y=s∨y∈l
 |[],s,y=>by simp [insS]
 |x::l,s,y=>by
  rw [insS];split
  ·rw [List.mem_cons,mem_insS (l:=l),List.mem_cons];constructor
   ·rintro(h|h|h)
    ·exact .inr (.inl h)
    ·exact .inl h
    ·exact .inr (.inr h)
   ·rintro(h|h|h)
    ·exact .inr (.inl h)
    ·exact .inl h
    ·exact .inr (.inr h)
  ·split
   ·rename_i h;subst h;constructor
    ·exact .inr
    ·rintro(rfl|h)
     ·exact List.mem_cons_self ..
     ·exact h
   ·rw [List.mem_cons]
theorem zhA:∀ {l:List Str} (_:IncS l) (s:Str),IncS (insS l s)
 |[],_,s=>by simp [insS,IncS]
 |x::l,h,s=>by
  have h':=List.pairwise_cons.1 h;rw [insS];split
  ·rename_i hx;refine List.pairwise_cons.2 ⟨fun y hy=>?_,zhA h'.2 s⟩;rcases mem_insS.1 hy with rfl|hy
   ·exact hx
   ·exact h'.1 y hy
  ·rename_i hx;split
   ·exact h
   ·rename_i hne;have hs:Op.bytesLess s x=true:=by
     rcases zkA x s with k|k|k
     ·exact absurd k hx
     ·exact absurd k hne
     ·exact k
    refine List.pairwise_cons.2 ⟨fun y hy=>?_,h⟩;rcases List.mem_cons.1 hy with rfl|hy
    ·exact hs
    ·exact zcK hs (h'.1 y hy)
theorem mem_addS {l:List Str}{s y:Str}:y∈addS l s↔(y=s∧s≠[])∨y∈l:=by
 unfold addS;split
 ·rename_i h;simp [h]
 ·rename_i h;rw [mem_insS];simp [h]
theorem addS_inc {l:List Str}(h:IncS l)(s:Str):IncS (addS l s):=by
 unfold addS;split
 ·exact h
 ·exact zhA h s
theorem ziM:∀(L l:List Str),IncS l→IncS (L.foldl addS l)∧∀ y,y∈L.foldl addS l↔(y∈L∧y≠[])∨y∈l
 |[],l,h=>⟨h,fun y=>by simp⟩
 |s::L,l,h=>by
  obtain⟨h1,h2⟩:=ziM L (addS l s) (addS_inc h s);refine⟨h1,fun y=>?_⟩;rw [List.foldl_cons,h2 y,mem_addS,List.mem_cons];constructor
  ·rintro(⟨a,b⟩|⟨rfl,b⟩|a)
   ·exact .inl ⟨.inr a,b⟩
   ·exact .inl ⟨.inl rfl,b⟩
   ·exact .inr a
  ·rintro(⟨rfl|a,b⟩|a)
   ·exact .inr (.inl ⟨rfl,b⟩)
   ·exact .inl ⟨a,b⟩
   ·exact .inr (.inr a)
theorem zlD(L:List Str):IncS (nmS L):=(ziM L [] List.Pairwise.nil).1
theorem mem_nmS {L:List Str}{y:Str}:y∈nmS L↔y∈L∧y≠[]:=by have:=(ziM L [] List.Pairwise.nil).2 y;simpa [nmS] using this
theorem zsd {a b:Str}(h:Op.bytesLess a b=true):Op.bytesLess b a=false:=by
 cases e:Op.bytesLess b a with
 |false=>rfl
 |true=>have:=zcK h e;rw [za8]at this;cases this
theorem IncS.ext:∀ {l r:List Str},IncS l→IncS r→(∀ y,y∈l↔y∈r)→l=r
 |[],[],_,_,_=>rfl
 |[],b::r,_,_,h=>absurd ((h b).2 (List.mem_cons_self ..)) (by simp)
 |a::l,[],_,_,h=>absurd ((h a).1 (List.mem_cons_self ..)) (by simp)
 |a::l,b::r,hl,hr,h=>by
  have hl':=List.pairwise_cons.1 hl;have hr':=List.pairwise_cons.1 hr;have hab:a=b:=by
   rcases List.mem_cons.1 ((h a).1 (List.mem_cons_self ..))with k|k
   ·exact k
   ·rcases List.mem_cons.1 ((h b).2 (List.mem_cons_self ..))with m|m
    ·exact m.symm
    ·have:=zsd (hr'.1 a k);rw [hl'.1 b m]at this;cases this
  subst hab;have:l=r:=IncS.ext hl'.2 hr'.2 fun y=>by
   have hy:=h y;rw [List.mem_cons,List.mem_cons]at hy;constructor
   ·intro k;rcases hy.1 (.inr k)with rfl|m
    ·have:=hl'.1 y k;rw [za8]at this;cases this
    ·exact m
   ·intro k;rcases hy.2 (.inr k)with rfl|m
    ·have:=hr'.1 y k;rw [za8]at this;cases this
    ·exact m
  rw [this]
theorem insS_len(l:List Str)(s:Str):(insS l s).length≤l.length+1:=by
 induction l with
 |nil=>simp [insS]
 |cons x l ih=>rw [insS];split;·simp;omega
               split<;>simp
theorem addS_len(l:List Str)(s:Str):(addS l s).length≤l.length+1:=by
 unfold addS;split;·omega
 exact insS_len l s
theorem zf4:∀(L l:List Str),(L.foldl addS l).length≤l.length+L.length
 |[],l=>by simp
 |s::L,l=>by have:=zf4 L (addS l s);have:=addS_len l s;rw [List.foldl_cons,List.length_cons];omega
theorem zit(L:List Str):(nmS L).length≤L.length:=by have:=zf4 L [];unfold nmS;simpa using this
def zgA(l:List Str)(s:Str)(p:Nat):Prop:=p≤l.length∧(∀ j,j<p→Op.bytesLess (l.getD j []) s=true)∧(p<l.length→Op.bytesLess (l.getD p []) s=false)
theorem ziJ:∀(l:List Str) (s:Str) (p:Nat),zgA l s p→(p<l.length∧l.getD p []=s→insS l s=l)∧(¬(p<l.length∧l.getD p []=s)→insS l s=l.take p++s::l.drop p)
 |[],s,p,h=>by
  have hp:p=0:=by have:=h.1;simpa using this
  subst hp;simp [insS]
 |x::l,s,0,h=>by
  have h0:Op.bytesLess x s=false:=h.2.2 (by simp);rw [insS,h0];simp only [Bool.false_eq_true,if_false,List.getD_cons_zero,List.length_cons,List.take_zero,List.drop_zero,List.nil_append];constructor
  ·rintro⟨_,he⟩;rw [if_pos he]
  ·intro hn;rw [if_neg fun he=>hn ⟨by simp,he⟩]
 |x::l,s,p+1,h=>by
  have h0:Op.bytesLess x s=true:=h.2.1 0 (by omega);obtain⟨k1,k2⟩:=ziJ l s p ⟨by have:=h.1;simpa using this,fun j hj=>by have:=h.2.1 (j+1) (by omega);rwa [List.getD_cons_succ]at this,fun hl=>by have:=h.2.2 (by simpa using hl);rwa [List.getD_cons_succ]at this⟩;rw [insS,h0];simp only [if_true,List.getD_cons_succ,List.length_cons,List.take_succ_cons,List.drop_succ_cons,List.cons_append];constructor
  ·rintro⟨a,b⟩;rw [k1 ⟨by omega,b⟩]
  ·intro hn;rw [k2 fun⟨a,b⟩=>hn ⟨by omega,b⟩]
end Go.Cnt
