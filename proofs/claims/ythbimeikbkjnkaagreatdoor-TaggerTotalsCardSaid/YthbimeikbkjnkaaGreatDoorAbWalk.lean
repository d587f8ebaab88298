/- Walks of calls that read the caller's blocks and hand out a new one; their contracts at any heap. -/
import Derived.Test.YthbimeikbkjnkaaGreatDoorAbRules
import Derived.Test.YthbimeikbkjnkaaGreatDoorAbCall
set_option linter.all false
namespace Go.Ab
variable {P:Program}
def EndN(C:Cfg)(P:Program)(rs:List ResultVar)(v:V)(Hc:Hp):Out→St→Prop
 | .norm,s| .ret,s=>∃ env',Sub C s ⟨env',Hc⟩∧(resL P ⟨env',Hc⟩ rs).1∧tupV (resL P ⟨env',Hc⟩ rs).2=v
 |_,_=>False
theorem endN_ret {C:Cfg}(rs:List ResultVar)(v:V)(Hc:Hp)(s:St):EndN C P rs v Hc .ret s=∃ env',Sub C s ⟨env',Hc⟩∧(resL P ⟨env',Hc⟩ rs).1∧tupV (resL P ⟨env',Hc⟩ rs).2=v:=rfl
theorem zxv {C:Cfg}(rs:List ResultVar)(v:V)(Hc:Hp)(s:St):EndN C P rs v Hc .norm s=∃ env',Sub C s ⟨env',Hc⟩∧(resL P ⟨env',Hc⟩ rs).1∧tupV (resL P ⟨env',Hc⟩ rs).2=v:=rfl
theorem numB_nil(i:Nat):numB i []=[]:=rfl
theorem zwc(i:Nat)(x:Blk)(r:List Blk):numB i (x::r)=(i,x)::numB (i+1) r:=rfl
attribute [go_sem] endN_ret zxv numB_nil zwc
theorem NCall.walk {nt:Nat}(keep:List Nat)(fz:List Nat)(nx:Nat){Γ:FuncId→List V→Option PR}{Δ:FuncId→List V→Hp→Option AR}{f:FuncId}{fn:Func}{c:Code}{args:List V}{F:List Blk}{v:V}{Hc:Hp}{rs:List ResultVar}
 (hm:P.follows .mixedOrders=true) (hΓ:zcS P Γ) (hΔ:za4 P Δ) (hc:zi P f) (hf:P.funcs[f]? =some fn) (hb:fn.body=some c) (hnt:fn.ntmps=nt) (hrs:fn.results.toList=rs) (hok:zaq nt c=true) (hle:args.length≤nt) (hnx:nx=F.length) (hn:F.length≤Hc.next)
 (h:AXs ⟨nt,zbk keep,Γ,Δ,nx,[],zbk fz⟩ P (EndN ⟨nt,zbk keep,Γ,Δ,nx,[],zbk fz⟩ P rs v Hc) [] c (zbK 0 args) ⟨numB 0 F,nx⟩):NCall P f args F [] v Hc:=by
 subst hnx
 refine NCall.of (C:=⟨nt,zbk keep,Γ,Δ,F.length,[],zbk fz⟩) hc hf hb hnt hle rfl (fun b hb=>by cases hb) hn ?_
 refine AX.mono (zcC (C:=⟨nt,zbk keep,Γ,Δ,F.length,[],zbk fz⟩) hm ⟨hΓ,hΔ⟩ c _ _ hok h) fun o s hk=>?_
 subst hrs
 cases o with
 |norm=>obtain⟨env',h1,h2,h3⟩:=hk;exact⟨.inl rfl,_,h1,rfl,h2,h3⟩
 |ret=>obtain⟨env',h1,h2,h3⟩:=hk;exact⟨.inr rfl,_,h1,rfl,h2,h3⟩
 |exit i=>exact hk.elim
 |panic v=>exact hk.elim
theorem NCall.walkW {nt:Nat}(keep:List Nat)(fz:List Nat)(nx:Nat)(W:List Nat){Γ:FuncId→List V→Option PR}{Δ:FuncId→List V→Hp→Option AR}{f:FuncId}{fn:Func}{c:Code}{args:List V}{F:List Blk}{v:V}{Hc:Hp}{rs:List ResultVar}
 (hm:P.follows .mixedOrders=true) (hΓ:zcS P Γ) (hΔ:za4 P Δ) (hc:zi P f) (hf:P.funcs[f]? =some fn) (hb:fn.body=some c) (hnt:fn.ntmps=nt) (hrs:fn.results.toList=rs) (hok:zaq nt c=true) (hle:args.length≤nt) (hnx:nx=F.length) (hW:∀ b∈W,b<F.length) (hn:F.length≤Hc.next)
 (h:AXs ⟨nt,zbk keep,Γ,Δ,nx,W,zbk fz⟩ P (EndN ⟨nt,zbk keep,Γ,Δ,nx,W,zbk fz⟩ P rs v Hc) [] c (zbK 0 args) ⟨numB 0 F,nx⟩):NCall P f args F W v Hc:=by
 subst hnx
 refine NCall.of (C:=⟨nt,zbk keep,Γ,Δ,F.length,W,zbk fz⟩) hc hf hb hnt hle rfl hW hn ?_
 refine AX.mono (zcC (C:=⟨nt,zbk keep,Γ,Δ,F.length,W,zbk fz⟩) hm ⟨hΓ,hΔ⟩ c _ _ hok h) fun o s hk=>?_
 subst hrs
 cases o with
 |norm=>obtain⟨env',h1,h2,h3⟩:=hk;exact⟨.inl rfl,_,h1,rfl,h2,h3⟩
 |ret=>obtain⟨env',h1,h2,h3⟩:=hk;exact⟨.inr rfl,_,h1,rfl,h2,h3⟩
 |exit i=>exact hk.elim
 |panic v=>exact hk.elim
theorem HCall.fresh {f:FuncId}{args:List V}{F:List Blk}{X:List V}{n sz:Nat}(hN:NCall P f args F [] (.sl F.length 0 n sz none) ⟨(F.length,.cells X)::numB 0 F,F.length+1⟩)(hX:∀ x∈X,Pure x)
 (is:List Nat) (args':List V) (H:Hp) (hlen:is.length=F.length) (hnd:is.Nodup) (ha:LRel (Rn (fun i=>is.getD i 0) (· <F.length)) args args')
 (hF:∀(i:Nat) (x:Blk),F[i]? =some x→∃ b,is[i]? =some b∧H.get b=some x∧RnB (fun i=>is.getD i 0) (· <F.length) x x)
 (hF':∀(i:Nat) (x:Blk),F[i]? =some x→∀ π N,RnB π N x x) (hk:∀ b x,H.get b=some x→b<H.next):
 HCall P f args' H ⟨True,.sl H.next 0 n sz none,⟨(H.next,.cells X)::H.bs,H.next+1⟩,is,[]⟩:=by
 have tc:zU is H.next H.next=F.length:=by unfold zU;rw [if_neg (by omega)];omega
 refine HCall.of hN is args' (.sl H.next 0 n sz none) H ⟨(H.next,.cells X)::H.bs,H.next+1⟩ hlen hnd ha (fun i x hx=>?_) ?_ (by show H.next+1+F.length=H.next+(F.length+1);omega) (fun b x' hx'=>?_) (fun b hb _=>?_)
 ·obtain⟨b,h1,h2,h3⟩:=hF i x hx
  exact⟨b,x,h1,h2,h3⟩
 ·have:=Rn.sl (π:=zU is H.next) (N:=fun b=>b∈is∨(H.next≤b∧b<H.next+1)) (b:=H.next) (off:=0) (len:=n) (sz:=sz) (kc:=none) (kc':=none) (.inr ⟨Nat.le_refl _,Nat.lt_succ_self _⟩) (.inl rfl)
  rwa [tc]at this
 ·by_cases hb:b=H.next
  ·subst hb
   have hxe:x'=.cells X:=by have:(((H.next,.cells X)::H.bs:List (Nat×Blk)).lookup H.next)=some x':=hx';simp at this;exact this.symm
   subst hxe
   refine .inr ⟨.inr ⟨Nat.le_refl _,Nat.lt_succ_self _⟩,.cells X,?_,.cells (zt hX)⟩
   rw [tc]
   show (((F.length,Blk.cells X)::numB 0 F).lookup F.length)=_
   simp
  ·have hg:H.get b=some x':=by
    have:(((H.next,.cells X)::H.bs:List (Nat×Blk)).lookup b)=some x':=hx'
    rw [List.lookup_cons]at this
    have hne:(b==H.next)=false:=by simpa using hb
    rw [hne]at this
    exact this
   by_cases hi:b∈is
   ·obtain⟨i,hi1,hi2⟩:=List.mem_iff_getElem.1 hi
    have hiF:i<F.length:=by omega
    obtain⟨b',k1,k2,k3⟩:=hF i F[i] (by rw [List.getElem?_eq_getElem])
    rw [List.getElem?_eq_getElem hi1,hi2]at k1
    cases k1
    rw [hg]at k2
    have hx:x'=F[i]:=Option.some.inj k2
    have htc:zU is H.next b=i:=by unfold zU;rw [if_pos (hk b _ hg), ←hi2,List.Nodup.idxOf_getElem hnd]
    refine .inr ⟨.inl hi,F[i],?_,?_⟩
    ·rw [htc]
     show (((F.length,Blk.cells X)::numB 0 F).lookup i)=_
     have hne:(i==F.length)=false:=by simp;omega
     rw [List.lookup_cons,hne,zdi]
     simp
    ·rw [hx];exact hF' i F[i] (by rw [List.getElem?_eq_getElem]) _ _
   ·exact .inl ⟨hk b _ hg,hi,hg⟩
 ·show (((H.next,.cells X)::H.bs:List (Nat×Blk)).lookup b)=H.get b
  rw [List.lookup_cons]
  have hne:(b==H.next)=false:=by simp;omega
  rw [hne];rfl
theorem zbN {bs:List (Nat×Blk)}{n:Nat}(h:((keysB bs).all fun b=>decide (b<n))=true):∀ b x,(⟨bs,n⟩:Hp).get b=some x→b<n:=fun b _ hx=>by have:=List.all_eq_true.1 h b (zfb hx);simpa using this
theorem HCall.none {f:FuncId}{args:List V}{F:List Blk}{v:V}(hN:NCall P f args F [] v ⟨numB 0 F,F.length⟩)(hv:Pure v)
 (is:List Nat) (args':List V) (H:Hp) (hlen:is.length=F.length) (hnd:is.Nodup) (ha:LRel (Rn (fun i=>is.getD i 0) (· <F.length)) args args')
 (hF:∀(i:Nat) (x:Blk),F[i]? =some x→∃ b,is[i]? =some b∧H.get b=some x∧RnB (fun i=>is.getD i 0) (· <F.length) x x)
 (hF':∀(i:Nat) (x:Blk),F[i]? =some x→∀ π N,RnB π N x x) (hk:∀ b x,H.get b=some x→b<H.next):
 HCall P f args' H ⟨True,v,H,is,[]⟩:=by
 refine HCall.of hN is args' v H H hlen hnd ha (fun i x hx=>?_) (.same hv) rfl (fun b x' hx'=>?_) (fun b hb _=>rfl)
 ·obtain⟨b,h1,h2,h3⟩:=hF i x hx
  exact⟨b,x,h1,h2,h3⟩
 ·by_cases hi:b∈is
  ·obtain⟨i,hi1,hi2⟩:=List.mem_iff_getElem.1 hi
   have hiF:i<F.length:=by omega
   obtain⟨b',k1,k2,k3⟩:=hF i F[i] (by rw [List.getElem?_eq_getElem])
   rw [List.getElem?_eq_getElem hi1,hi2]at k1
   cases k1
   rw [hx']at k2
   have hx:x'=F[i]:=Option.some.inj k2
   have htc:zU is H.next b=i:=by unfold zU;rw [if_pos (hk b _ hx'), ←hi2,List.Nodup.idxOf_getElem hnd]
   refine .inr ⟨.inl hi,F[i],?_,?_⟩
   ·rw [htc]
    show ((numB 0 F).lookup i)=_
    rw [zdi]
    simp
   ·rw [hx];exact hF' i F[i] (by rw [List.getElem?_eq_getElem]) _ _
  ·exact .inl ⟨hk b _ hx',hi,hx'⟩
noncomputable def conD(R:List V→Hp→AR→Prop):List V→Hp→Option AR:=fun args H=>
 open Classical in if h:∃ r,R args H r then some (Classical.choose h)else Option.none
theorem zaT {R:List V→Hp→AR→Prop}{args:List V}{H:Hp}{r:AR}(h:R args H r)(hu:∀ r',R args H r'→r'=r):conD R args H=some r:=by have hx:∃ r,R args H r:=⟨r,h⟩;unfold conD;rw [dif_pos hx,hu _ (Classical.choose_spec hx)]
theorem zaS {R:List V→Hp→AR→Prop}{f:FuncId}(h:∀ args H r,R args H r→HCall P f args H r):∀ args H r,conD R args H=some r→HCall P f args H r:=by
 intro args H r e;unfold conD at e;split at e
 ·rename_i hx;cases e;exact h _ _ _ (Classical.choose_spec hx)
 ·cases e
end Go.Ab

namespace Go.Ab
variable {C:Cfg}{P:Program}{K:Out→St→Prop}{st:List Fr}{env:Env}{h:Hp}
def takeC:Nat→Code→Option (Code×Code)
 |0,_=>none
 |n+1,.seq x y=>match n with
  |0=>some (x,y)
  |n+1=>match takeC (n+1) y with
   |some (p,q)=>if zbm x=true then none else some (.seq x p,q)
   |none=>none
 |_+1,_=>none
theorem zjE(hm:P.follows .mixedOrders=true)(hΓ:zcA P C):∀(n:Nat) (c p q:Code) (s:St) (K1 K:Out→St→Prop),takeC n c=some (p,q)→zaq C.nt c=true→AXf C P p s K1→(∀ o s,K1 o s→zfp (fun s=>AX C P q s K) K o s)→AX C P c s K
 |0,_,_,_,_,_,_,h,_,_,_=>by cases h
 |n+1,c,p,q,s,K1,K,h,hc,hx,hk1=>by
  cases c<;>try (cases h;done)
  rename_i x y;simp only [zaq,Bool.and_eq_true]at hc;cases n with
  |zero=>cases h;exact AX.seq ((zcC hm hΓ _ s _ hc.1 hx).mono hk1)
  |succ n=>
   simp only [takeC]at h;split at h
   ·rename_i p' q' e;split at h
    ·cases h
    ·rename_i hl;cases h;unfold AXf at hx;refine AX.seq ((zcC hm hΓ x s _ hc.1 hx).mono fun o s' hk=>?_);cases o with
     |norm=>
      have hk':if zbm x=true then AX C P p' s' K1 else AXf C P p' s' K1:=hk
      rw [if_neg hl]at hk';exact zjE hm hΓ (n+1) y p' q s' K1 K e hc.2 hk' hk1
     |exit i=>exact hk1 _ _ hk
     |ret=>exact hk1 _ _ hk
     |panic v=>exact hk1 _ _ hk
   ·cases h
theorem AXa.cut {y:Code}(n:Nat){p q:Code}(hn:takeC n y=some (p,q))(hm:P.follows .mixedOrders=true)(hΓ:zcS P C.Γ)(hΔ:za4 P C.Δ)(hok:zaq C.nt y=true)(hx:AXs C P K (.sem q::st) p env h):AXa C P K st y env h:=
 zjE hm ⟨hΓ,hΔ⟩ n y p q ⟨env,h⟩ _ _ hn hok hx fun _ _ k=>k
theorem zfq {base:Nat}{D:Nat→Prop}{g0:G}{H0:Hp}{w0:World}{ops:Array Oper}{K:Out→St→Prop}(he:Entry C base D g0 H0 w0)(hΓ:zcA P C)(hd:∀ o∈ops.toList,∀ d,o.dst=some d→d<C.nt)
 (Q:Exit→Act→World→Prop) (js:List Nat) (rest:List Oper) (hN:∀ s g a w,Rel C base D g0 H0 w0 g s a w→K .norm s→wpOps P ops Q js a w)
 (hQ:∀ e a w,Aft C base D g0 H0 w0 (fun o s=>match o with| .norm=>False|o=>K o s) e a w→Q e a w):
 ∀(os:List Oper) (i:Nat),ops.toList.drop i=os++rest→∀(s:St) (g:G) (a:Act) (w:World),Rel C base D g0 H0 w0 g s a w→ARun C P ops os s K→wpOps P ops Q (List.range' i os.length++js) a w
 |[],i,_,s,g,a,w,r,h=>by simpa using hN s g a w r h
 |o::os,i,hi,s,g,a,w,r,h=>by
  have ho:ops[i]? =some o:=by
   have:(ops.toList.drop i)[0]? =some o:=by rw [hi];rfl
   rw [List.getElem?_drop]at this;rw [←Array.getElem?_toList];simpa using this
  have hos:ops.toList.drop (i+1)=os++rest:=by rw [←List.drop_drop,hi];rfl
  have hmem:o∈ops.toList:=List.mem_of_getElem? (by rw [Array.getElem?_toList];exact ho);have hdo:=hd o hmem;have hO:=r.env.ops ops o;have sem:=zcq hΓ ops o s.env s.h;rw [List.length_cons,List.range'_succ,List.cons_append];simp only [wpOps,ho];have dput:∀(b:Act) (vc:Value),b.defers=[]→(b.put o.dst vc).defers=[]:=fun b vc e=>by cases o.dst<;>exact e
  have go:∀(st:Bool) (v:V) (h':Hp) (f:Foot),ARun C P ops os ((s.put o.dst v).hp h') K→wok C f.W=true→StepSem P C.nt ops o s.env s.h st v h' f→o.wp P a w (wpOps P ops Q (List.range' (i+1) os.length++js)) Q:=by intro st v h' f hk hw hst;refine hst.exec g base _ w a _ Q r.post.inv hO (fun b _=>he.inD b) fun g' w' vc hv hp=>?_;exact zfq he hΓ hd Q js rest hN hQ os (i+1) hos ((s.put o.dst v).hp h') g' _ w' ⟨(r.env.mono hp.le).put hdo hv,dput _ _ r.defers,r.step he hp hw⟩ hk
  have pan:∀(v:V) (R:List Nat),K (.panic v) s→zjr P C.nt ops o s.env s.h v R→o.wp P a w (wpOps P ops Q (List.range' (i+1) os.length++js)) Q:=by intro v R hk hst;refine hst g base _ w a _ Q r.post.inv hO (fun b _=>he.inD b) fun g' w' vc hv hp=>?_;exact hQ _ _ _ ⟨.panic v,s,g',hk,⟨vc,hv,rfl⟩,r.env.mono hp.le,r.defers,r.step he hp rfl⟩
  have skip:∀ v,VRel g v undef→ARun C P ops os ((s.put o.dst v).hp s.h) K→wpOps P ops Q (List.range' (i+1) os.length++js) (a.put o.dst undef) w:=fun v hv hk=>
   zfq he hΓ hd Q js rest hN hQ os (i+1) hos ((s.put o.dst v).hp s.h) g _ w ⟨r.env.put hdo hv,dput _ _ r.defers,r.post⟩ hk
  unfold ARun at h;split at h
  ·rename_i hg;have hw:Region.wanted o (yielded ops a.tmps)=true:=by unfold Region.wanted;rw [hg]
   rw [if_pos hw];rcases zxp sem h with⟨st,v,h',f,hk,hwk,hst⟩|⟨v,R,hk,hst⟩
   ·exact .inl (go st v h' f hk hwk hst)
   ·exact .inl (pan v R hk hst)
  ·split at h;rotate_left;·exact h.elim
   rename_i gb hg;have hw:=zny hO.rel hg;rcases zoM sem h with⟨rfl,st,v,h',f,hk,hwk,hst⟩|⟨rfl,v,R,hk,hst⟩|⟨rfl,hk⟩|⟨v,R,hk,hst⟩
   ·rw [if_pos hw];exact .inl (go st v h' f hk hwk hst)
   ·rw [if_pos hw];exact .inl (pan v R hk hst)
   ·rw [if_neg (by rw [hw];simp)];exact skip _ (VRel.mk_tup rfl PW.nil) hk
   ·cases gb with
    |true=>rw [if_pos hw];refine .inl ?_;refine(hst rfl).exec g base _ w a _ Q r.post.inv hO (fun b _=>he.inD b) fun g' w' vc hv hp=>?_;exact zfq he hΓ hd Q js rest hN hQ os (i+1) hos ((s.put o.dst (.opt true v)).hp s.h) g' _ w' ⟨(r.env.mono hp.le).put hdo (zob rfl hv),dput _ _ r.defers,r.step he hp rfl⟩ hk
    |false=>rw [if_neg (by rw [hw];simp)];exact skip _ (zhf rfl) hk
def zAB(C:Cfg)(P:Program)(K:Out→St→Prop)(st:List Fr)(y:Code)(os:List Oper)(k:Nat):Out→St→Prop
 | .norm,s=>∃ s',(Sub C s s'∨(C.Wm=[]∧∃ F,Fz C.nx F s s'))∧AXr C P K (.sem y::st) ⟨os⟩ (os.drop k) s'.env s'.h
 | .exit i,s=>unst C P K st (.exit i) s
 | .ret,s=>unst C P K st .ret s
 | .panic v,s=>unst C P K st (.panic v) s
theorem AXa.split(k:Nat){id:Nat}{os:List Oper}{y:Code}(hm:P.follows .mixedOrders=true)(hΓ:zcS P C.Γ)(hΔ:za4 P C.Δ)(hok:zaq C.nt (.seq (.region id ⟨os⟩ false) y)=true)(hx:AXr C P (zAB C P K st y os k) [] ⟨os⟩ (os.take k) env h):
 AXa C P K st (.seq (.region id ⟨os⟩ false) y) env h:=by
 simp only [zaq,Bool.and_eq_true]at hok
 refine AX.seq fun base D g0 H0 w0 g a w he r=>wp_region ?_
 have hy:∀ o s,unst C P K (.sem y::st) o s→zfp (fun s=>AX C P y s (unst C P K st)) (unst C P K st) o s:=fun o s hk=>by
  cases o with
  |norm=>exact hk
  |exit i=>exact hk
  |ret=>exact hk
  |panic v=>exact hk
 have hq:∀ e a w,Aft C base D g0 H0 w0 (zbM C.keep (unst C P K (.sem y::st))) e a w→Aft C base D g0 H0 w0 (zfp (fun s=>AX C P y s (unst C P K st)) (unst C P K st)) e a w:=fun e a w ⟨o,s,g,h1,h2,h3⟩=>by
  cases o with
  |norm=>exact⟨.norm,s.trim C.keep,g,hy .norm _ h1,h2,h3.env.trim C.keep,h3.defers,h3.post⟩
  |exit i=>exact⟨_,s,g,hy (.exit i) _ h1,h2,h3⟩
  |ret=>exact⟨_,s,g,hy .ret _ h1,h2,h3⟩
  |panic v=>exact⟨_,s,g,hy (.panic v) _ h1,h2,h3⟩
 have hd:=zbr hok.1.1
 have hlen:(⟨os⟩:Array Oper).size=os.length:=rfl
 rw [List.range_eq_range',hlen]
 by_cases hk:k≤os.length
 ·have hr:List.range' 0 os.length=List.range' 0 (os.take k).length++List.range' k (os.drop k).length:=by
   rw [List.length_take,List.length_drop,Nat.min_eq_left hk]
   have:=@List.range'_append_1 0 k (os.length - k)
   rw [Nat.zero_add]at this
   rw [this];congr 1;omega
  rw [hr]
  refine zfq (K:=zbM C.keep (zAB C P K st y os k)) he ⟨hΓ,hΔ⟩ hd _ _ (os.drop k) (fun s g a w r hk2=>?_) (fun e a w ⟨o,s,g,h1,h2,h3⟩=>?_) (os.take k) 0 (by simp) ⟨env,h⟩ g a w r hx
  ·obtain⟨s',hs,hx'⟩:=hk2
   have r1:Rel C base D g0 H0 w0 g (s.trim C.keep) a w:=⟨r.env.trim C.keep,r.defers,r.post⟩
   have hR:∃ g',Rel C base D g0 H0 w0 g' s' a w:=by
    rcases hs with hs|⟨hW,F,hs⟩
    ·exact r1.sub he hs
    ·exact r1.freeze he hW hs
   obtain⟨g',r'⟩:=hR
   exact zeK he ⟨hΓ,hΔ⟩ hd _ hq (os.drop k) k rfl s' g' a w r' hx'
  ·cases o with
   |norm=>exact h1.elim
   |exit i=>exact⟨.exit i,s,g,h1,h2,h3⟩
   |ret=>exact⟨.ret,s,g,h1,h2,h3⟩
   |panic v=>exact⟨.panic v,s,g,h1,h2,h3⟩
 ·have ht:os.take k=os:=List.take_of_length_le (by omega)
  have hdk:os.drop k=[]:=List.drop_eq_nil_of_le (by omega)
  rw [ht]at hx
  have hr:List.range' 0 os.length=List.range' 0 os.length++[]:=by simp
  rw [hr]
  refine zfq (K:=zbM C.keep (zAB C P K st y os k)) he ⟨hΓ,hΔ⟩ hd _ _ [] (fun s g a w r hk2=>?_) (fun e a w ⟨o,s,g,h1,h2,h3⟩=>?_) os 0 (by simp) ⟨env,h⟩ g a w r hx
  ·obtain⟨s',hs,hx'⟩:=hk2
   have r1:Rel C base D g0 H0 w0 g (s.trim C.keep) a w:=⟨r.env.trim C.keep,r.defers,r.post⟩
   have hR:∃ g',Rel C base D g0 H0 w0 g' s' a w:=by
    rcases hs with hs|⟨hW,F,hs⟩
    ·exact r1.sub he hs
    ·exact r1.freeze he hW hs
   obtain⟨g',r'⟩:=hR
   rw [hdk]at hx'
   exact zeK (ops:=⟨os⟩) he ⟨hΓ,hΔ⟩ hd _ hq [] os.length (by simp) s' g' a w r' hx'
  ·cases o with
   |norm=>exact h1.elim
   |exit i=>exact⟨.exit i,s,g,h1,h2,h3⟩
   |ret=>exact⟨.ret,s,g,h1,h2,h3⟩
   |panic v=>exact⟨.panic v,s,g,h1,h2,h3⟩
theorem AXr.mono {K K':Out→St→Prop}{ops:Array Oper}:∀ {os:List Oper} {env:Env} {h:Hp},(∀ o s,K o s→K' o s)→AXr C P K [] ops os env h→AXr C P K' [] ops os env h:=by
 have key:∀(os:List Oper) (s:St) (K K':Out→St→Prop),(∀ o s,K o s→K' o s)→ARun C P ops os s K→ARun C P ops os s K':=by
  intro os;induction os with
  |nil=>intro s K K' hk h;exact hk _ _ h
  |cons o os ih=>
   intro s K K' hk h;unfold ARun at h ⊢;split at h
   ·unfold fol at h ⊢;split at h
    ·exact⟨h.1,h.2.1,ih _ _ _ hk h.2.2⟩
    ·exact⟨h.1,hk _ _ h.2⟩
    ·exact h
   ·split at h
    ·unfold folG at h ⊢;split at h
     ·exact⟨h.1,ih _ _ _ hk h.2⟩
     ·split at h
      ·rename_i hb;rw [if_pos hb];exact⟨h.1,h.2.1,ih _ _ _ hk h.2.2⟩
      ·rename_i hb;rw [if_neg hb];exact ih _ _ _ hk h
     ·split at h
      ·rename_i hb;rw [if_pos hb];exact⟨h.1,hk _ _ h.2⟩
      ·rename_i hb;rw [if_neg hb];exact ih _ _ _ hk h
     ·exact⟨h.1,ih _ _ _ hk h.2⟩
    ·exact h
 intro os env h hk hx;refine key os ⟨env,h⟩ _ _ (fun o s k=>?_) hx;cases o with
 |norm=>exact hk _ _ k
 |exit i=>exact hk _ _ k
 |ret=>exact hk _ _ k
 |panic v=>exact hk _ _ k
def skV:SR→V
 | .ok true _ v _ _=>.opt false v
 |_=>undefV
theorem zk5 {ops:Array Oper}{os:List Oper}(d:Tmp)(r:SR):AXg1 C P K st ops os (some d) (some false) r env h=AXr C P K st ops os ((d,skV r)::env) h:=by
 apply propext;cases r with
 |ok st' pre v h' f=>
  cases st' with
  |true=>exact⟨fun k=>k.2,fun k=>⟨fun e=>(by cases e),k⟩⟩
  |false=>exact Iff.rfl
 |pan pre v R=>exact Iff.rfl
 |bad=>exact⟨fun k=>k.2,fun k=>⟨rfl,k⟩⟩
theorem zvP(a:V)(y:Bool)(H:Hp):zcs (.opt true (.bool false)) a (.bool y) H=.ok true True (.bool y) H ⟨[],[],0,0⟩:=by unfold zcs;cases ha:a.val<;>simp [V.val,V.cond]
attribute [go_sem] List.take_succ_cons List.drop_succ_cons
end Go.Ab
