/- Walks of calls that read the caller's blocks and hand out a new one; their contracts at any heap. -/
import Derived.Test.YthbimeikbkjnkaaGreatDoorCS0Types
set_option linter.all false
set_option maxHeartbeats 16000000
set_option maxRecDepth 100000
namespace Go.Ab
variable {P:Program}
def EndN(C:Cfg)(P:Program)(rs:List ResultVar)(v:V)(Hc:Hp):Out→St→Prop
 | .norm,s| .ret,s=>∃ env',Sub C s ⟨env',Hc⟩∧(resL P ⟨env',Hc⟩ rs).1∧tupV (resL P ⟨env',Hc⟩ rs).2=v
 |_,_=>False
theorem endN_ret {C:Cfg}(rs:List ResultVar)(v:V)(Hc:Hp)(s:St):EndN C P rs v Hc .ret s=∃ env',Sub C s ⟨env',Hc⟩∧(resL P ⟨env',Hc⟩ rs).1∧tupV (resL P ⟨env',Hc⟩ rs).2=v:=rfl
theorem zyl {C:Cfg}(rs:List ResultVar)(v:V)(Hc:Hp)(s:St):EndN C P rs v Hc .norm s=∃ env',Sub C s ⟨env',Hc⟩∧(resL P ⟨env',Hc⟩ rs).1∧tupV (resL P ⟨env',Hc⟩ rs).2=v:=rfl
theorem numB_nil(i:Nat):numB i []=[]:=rfl
theorem zwU(i:Nat)(x:Blk)(r:List Blk):numB i (x::r)=(i,x)::numB (i+1) r:=rfl
attribute [go_sem] endN_ret zyl numB_nil zwU
theorem NCall.walk {nt:Nat}(keep:List Nat)(fz:List Nat)(nx:Nat){Γ:FuncId→List V→Option PR}{Δ:FuncId→List V→Hp→Option AR}{f:FuncId}{fn:Func}{c:Code}{args:List V}{F:List Blk}{v:V}{Hc:Hp}{rs:List ResultVar}
 (hm:P.follows .mixedOrders=true) (hΓ:zdc P Γ) (hΔ:zaT P Δ) (hc:zi P f) (hf:P.funcs[f]? =some fn) (hb:fn.body=some c) (hnt:fn.ntmps=nt) (hrs:fn.results.toList=rs) (hok:zas nt c=true) (hle:args.length≤nt) (hnx:nx=F.length) (hn:F.length≤Hc.next)
 (h:AXs ⟨nt,zbm keep,Γ,Δ,nx,[],zbm fz⟩ P (EndN ⟨nt,zbm keep,Γ,Δ,nx,[],zbm fz⟩ P rs v Hc) [] c (zbT 0 args) ⟨numB 0 F,nx⟩):NCall P f args F [] v Hc:=by
 subst hnx
 refine NCall.of (C:=⟨nt,zbm keep,Γ,Δ,F.length,[],zbm fz⟩) hc hf hb hnt hle rfl (fun b hb=>by cases hb) hn ?_
 refine AX.mono (zcV (C:=⟨nt,zbm keep,Γ,Δ,F.length,[],zbm fz⟩) hm ⟨hΓ,hΔ⟩ c _ _ hok h) fun o s hk=>?_
 subst hrs
 cases o with
 |norm=>obtain⟨env',h1,h2,h3⟩:=hk;exact⟨.inl rfl,_,h1,rfl,h2,h3⟩
 |ret=>obtain⟨env',h1,h2,h3⟩:=hk;exact⟨.inr rfl,_,h1,rfl,h2,h3⟩
 |exit i=>exact hk.elim
 |panic v=>exact hk.elim
theorem NCall.walkW {nt:Nat}(keep:List Nat)(fz:List Nat)(nx:Nat)(W:List Nat){Γ:FuncId→List V→Option PR}{Δ:FuncId→List V→Hp→Option AR}{f:FuncId}{fn:Func}{c:Code}{args:List V}{F:List Blk}{v:V}{Hc:Hp}{rs:List ResultVar}
 (hm:P.follows .mixedOrders=true) (hΓ:zdc P Γ) (hΔ:zaT P Δ) (hc:zi P f) (hf:P.funcs[f]? =some fn) (hb:fn.body=some c) (hnt:fn.ntmps=nt) (hrs:fn.results.toList=rs) (hok:zas nt c=true) (hle:args.length≤nt) (hnx:nx=F.length) (hW:∀ b∈W,b<F.length) (hn:F.length≤Hc.next)
 (h:AXs ⟨nt,zbm keep,Γ,Δ,nx,W,zbm fz⟩ P (EndN ⟨nt,zbm keep,Γ,Δ,nx,W,zbm fz⟩ P rs v Hc) [] c (zbT 0 args) ⟨numB 0 F,nx⟩):NCall P f args F W v Hc:=by
 subst hnx
 refine NCall.of (C:=⟨nt,zbm keep,Γ,Δ,F.length,W,zbm fz⟩) hc hf hb hnt hle rfl hW hn ?_
 refine AX.mono (zcV (C:=⟨nt,zbm keep,Γ,Δ,F.length,W,zbm fz⟩) hm ⟨hΓ,hΔ⟩ c _ _ hok h) fun o s hk=>?_
 subst hrs
 cases o with
 |norm=>obtain⟨env',h1,h2,h3⟩:=hk;exact⟨.inl rfl,_,h1,rfl,h2,h3⟩
 |ret=>obtain⟨env',h1,h2,h3⟩:=hk;exact⟨.inr rfl,_,h1,rfl,h2,h3⟩
 |exit i=>exact hk.elim
 |panic v=>exact hk.elim
theorem HCall.fresh {f:FuncId}{args:List V}{F:List Blk}{X:List V}{n sz:Nat}(hN:NCall P f args F [] (.sl F.length 0 n sz none) ⟨(F.length,.cells X)::numB 0 F,F.length+1⟩)(hX:∀ x∈X,Pure x)
 (is:List Nat) (args':List V) (H:Hp) (hlen:is.length=F.length) (hnd:is.Nodup) (ha:LRel (Rn (fun i=>is.getD i 0) (· <F.length)) args args')
 (hF:∀(i:Nat) (x:Blk),F[i]? =some x→∃ b,is[i]? =some b∧H.get b=some x∧RnB (fun i=>is.getD i 0) (· <F.length) x x)
 (hF':∀(i:Nat) (x:Blk),F[i]? =some x→∀ π N,RnB π N x x) (hk:∀ b x,H.get b=some x→b<H.next):
 HCall P f args' H ⟨True,.sl H.next 0 n sz none,⟨(H.next,.cells X)::H.bs,H.next+1⟩,is,[]⟩:=by
 have tc:zK is H.next H.next=F.length:=by unfold zK;rw [if_neg (by omega)];omega
 refine HCall.of hN is args' (.sl H.next 0 n sz none) H ⟨(H.next,.cells X)::H.bs,H.next+1⟩ hlen hnd ha (fun i x hx=>?_) ?_ (by show H.next+1+F.length=H.next+(F.length+1);omega) (fun b x' hx'=>?_) (fun b hb _=>?_)
 ·obtain⟨b,h1,h2,h3⟩:=hF i x hx
  exact⟨b,x,h1,h2,h3⟩
 ·have:=Rn.sl (π:=zK is H.next) (N:=fun b=>b∈is∨(H.next≤b∧b<H.next+1)) (b:=H.next) (off:=0) (len:=n) (sz:=sz) (kc:=none) (kc':=none) (.inr ⟨Nat.le_refl _,Nat.lt_succ_self _⟩) (.inl rfl)
  rwa [tc]at this
 ·by_cases hb:b=H.next
  ·subst hb
   have hxe:x'=.cells X:=by have:(((H.next,.cells X)::H.bs:List (Nat×Blk)).lookup H.next)=some x':=hx';simp at this;exact this.symm
   subst hxe
   refine .inr ⟨.inr ⟨Nat.le_refl _,Nat.lt_succ_self _⟩,.cells X,?_,.cells (zA hX)⟩
   rw [tc]
   show (((F.length,Blk.cells X)::numB 0 F).lookup F.length)=_
   simp
  ·have hg:H.get b=some x':=by
    have:(((H.next,.cells X)::H.bs:List (Nat×Blk)).lookup b)=some x':=hx'
    rw [List.lookup_cons]at this
    have hne:(b==H.next)=false:=by simpa using hb
    rw [hne]at this
    exact this
   by_cases hi:b∈is
   ·obtain⟨i,hi1,hi2⟩:=List.mem_iff_getElem.1 hi
    have hiF:i<F.length:=by omega
    obtain⟨b',k1,k2,k3⟩:=hF i F[i] (by rw [List.getElem?_eq_getElem])
    rw [List.getElem?_eq_getElem hi1,hi2]at k1
    cases k1
    rw [hg]at k2
    have hx:x'=F[i]:=Option.some.inj k2
    have htc:zK is H.next b=i:=by unfold zK;rw [if_pos (hk b _ hg), ←hi2,List.Nodup.idxOf_getElem hnd]
    refine .inr ⟨.inl hi,F[i],?_,?_⟩
    ·rw [htc]
     show (((F.length,Blk.cells X)::numB 0 F).lookup i)=_
     have hne:(i==F.length)=false:=by simp;omega
     rw [List.lookup_cons,hne,zdn]
     simp
    ·rw [hx];exact hF' i F[i] (by rw [List.getElem?_eq_getElem]) _ _
   ·exact .inl ⟨hk b _ hg,hi,hg⟩
 ·show (((H.next,.cells X)::H.bs:List (Nat×Blk)).lookup b)=H.get b
  rw [List.lookup_cons]
  have hne:(b==H.next)=false:=by simp;omega
  rw [hne];rfl
theorem zbp {bs:List (Nat×Blk)}{n:Nat}(h:((keysB bs).all fun b=>decide (b<n))=true):∀ b x,(⟨bs,n⟩:Hp).get b=some x→b<n:=fun b _ hx=>by have:=List.all_eq_true.1 h b (zfe hx);simpa using this
theorem HCall.none {f:FuncId}{args:List V}{F:List Blk}{v:V}(hN:NCall P f args F [] v ⟨numB 0 F,F.length⟩)(hv:Pure v)
 (is:List Nat) (args':List V) (H:Hp) (hlen:is.length=F.length) (hnd:is.Nodup) (ha:LRel (Rn (fun i=>is.getD i 0) (· <F.length)) args args')
 (hF:∀(i:Nat) (x:Blk),F[i]? =some x→∃ b,is[i]? =some b∧H.get b=some x∧RnB (fun i=>is.getD i 0) (· <F.length) x x)
 (hF':∀(i:Nat) (x:Blk),F[i]? =some x→∀ π N,RnB π N x x) (hk:∀ b x,H.get b=some x→b<H.next):
 HCall P f args' H ⟨True,v,H,is,[]⟩:=by
 refine HCall.of hN is args' v H H hlen hnd ha (fun i x hx=>?_) (.same hv) rfl (fun b x' hx'=>?_) (fun b hb _=>rfl)
 ·obtain⟨b,h1,h2,h3⟩:=hF i x hx
  exact⟨b,x,h1,h2,h3⟩
 ·by_cases hi:b∈is
  ·obtain⟨i,hi1,hi2⟩:=List.mem_iff_getElem.1 hi
   have hiF:i<F.length:=by omega
   obtain⟨b',k1,k2,k3⟩:=hF i F[i] (by rw [List.getElem?_eq_getElem])
   rw [List.getElem?_eq_getElem hi1,hi2]at k1
   cases k1
   rw [hx']at k2
   have hx:x'=F[i]:=Option.some.inj k2
   have htc:zK is H.next b=i:=by unfold zK;rw [if_pos (hk b _ hx'), ←hi2,List.Nodup.idxOf_getElem hnd]
   refine .inr ⟨.inl hi,F[i],?_,?_⟩
   ·rw [htc]
    show ((numB 0 F).lookup i)=_
    rw [zdn]
    simp
   ·rw [hx];exact hF' i F[i] (by rw [List.getElem?_eq_getElem]) _ _
  ·exact .inl ⟨hk b _ hx',hi,hx'⟩
noncomputable def conD(R:List V→Hp→AR→Prop):List V→Hp→Option AR:=fun args H=>
 open Classical in if h:∃ r,R args H r then some (Classical.choose h)else Option.none
theorem zaD {R:List V→Hp→AR→Prop}{args:List V}{H:Hp}{r:AR}(h:R args H r)(hu:∀ r',R args H r'→r'=r):conD R args H=some r:=by have hx:∃ r,R args H r:=⟨r,h⟩;unfold conD;rw [dif_pos hx,hu _ (Classical.choose_spec hx)]
theorem zaq {R:List V→Hp→AR→Prop}{f:FuncId}(h:∀ args H r,R args H r→HCall P f args H r):∀ args H r,conD R args H=some r→HCall P f args H r:=by
 intro args H r e;unfold conD at e;split at e
 ·rename_i hx;cases e;exact h _ _ _ (Classical.choose_spec hx)
 ·cases e
end Go.Ab

namespace Go.Ab
variable {C:Cfg}{P:Program}{K:Out→St→Prop}{st:List Fr}{env:Env}{h:Hp}
def takeC:Nat→Code→Option (Code×Code)
 |0,_=>none
 |n+1,.seq x y=>match n with
  |0=>some (x,y)
  |n+1=>match takeC (n+1) y with
   |some (p,q)=>if zbq x=true then none else some (.seq x p,q)
   |none=>none
 |_+1,_=>none
theorem zjU(hm:P.follows .mixedOrders=true)(hΓ:zcF P C):∀(n:Nat) (c p q:Code) (s:St) (K1 K:Out→St→Prop),takeC n c=some (p,q)→zas C.nt c=true→AXf C P p s K1→(∀ o s,K1 o s→zf3 (fun s=>AX C P q s K) K o s)→AX C P c s K
 |0,_,_,_,_,_,_,h,_,_,_=>by cases h
 |n+1,c,p,q,s,K1,K,h,hc,hx,hk1=>by
  cases c<;>try (cases h;done)
  rename_i x y;simp only [zas,Bool.and_eq_true]at hc;cases n with
  |zero=>cases h;exact AX.seq ((zcV hm hΓ _ s _ hc.1 hx).mono hk1)
  |succ n=>
   simp only [takeC]at h;split at h
   ·rename_i p' q' e;split at h
    ·cases h
    ·rename_i hl;cases h;unfold AXf at hx;refine AX.seq ((zcV hm hΓ x s _ hc.1 hx).mono fun o s' hk=>?_);cases o with
     |norm=>
      have hk':if zbq x=true then AX C P p' s' K1 else AXf C P p' s' K1:=hk
      rw [if_neg hl]at hk';exact zjU hm hΓ (n+1) y p' q s' K1 K e hc.2 hk' hk1
     |exit i=>exact hk1 _ _ hk
     |ret=>exact hk1 _ _ hk
     |panic v=>exact hk1 _ _ hk
   ·cases h
theorem AXa.cut {y:Code}(n:Nat){p q:Code}(hn:takeC n y=some (p,q))(hm:P.follows .mixedOrders=true)(hΓ:zdc P C.Γ)(hΔ:zaT P C.Δ)(hok:zas C.nt y=true)(hx:AXs C P K (.sem q::st) p env h):AXa C P K st y env h:=
 zjU hm ⟨hΓ,hΔ⟩ n y p q ⟨env,h⟩ _ _ hn hok hx fun _ _ k=>k
theorem zfx {base:Nat}{D:Nat→Prop}{g0:G}{H0:Hp}{w0:World}{ops:Array Oper}{K:Out→St→Prop}(he:Entry C base D g0 H0 w0)(hΓ:zcF P C)(hd:∀ o∈ops.toList,∀ d,o.dst=some d→d<C.nt)
 (Q:Exit→Act→World→Prop) (js:List Nat) (rest:List Oper) (hN:∀ s g a w,Rel C base D g0 H0 w0 g s a w→K .norm s→wpOps P ops Q js a w)
 (hQ:∀ e a w,Aft C base D g0 H0 w0 (fun o s=>match o with| .norm=>False|o=>K o s) e a w→Q e a w):
 ∀(os:List Oper) (i:Nat),ops.toList.drop i=os++rest→∀(s:St) (g:G) (a:Act) (w:World),Rel C base D g0 H0 w0 g s a w→ARun C P ops os s K→wpOps P ops Q (List.range' i os.length++js) a w
 |[],i,_,s,g,a,w,r,h=>by simpa using hN s g a w r h
 |o::os,i,hi,s,g,a,w,r,h=>by
  have ho:ops[i]? =some o:=by
   have:(ops.toList.drop i)[0]? =some o:=by rw [hi];rfl
   rw [List.getElem?_drop]at this;rw [←Array.getElem?_toList];simpa using this
  have hos:ops.toList.drop (i+1)=os++rest:=by rw [←List.drop_drop,hi];rfl
  have hmem:o∈ops.toList:=List.mem_of_getElem? (by rw [Array.getElem?_toList];exact ho);have hdo:=hd o hmem;have hO:=r.env.ops ops o;have sem:=zct hΓ ops o s.env s.h;rw [List.length_cons,List.range'_succ,List.cons_append];simp only [wpOps,ho];have dput:∀(b:Act) (vc:Value),b.defers=[]→(b.put o.dst vc).defers=[]:=fun b vc e=>by cases o.dst<;>exact e
  have go:∀(st:Bool) (v:V) (h':Hp) (f:Foot),ARun C P ops os ((s.put o.dst v).hp h') K→wok C f.W=true→StepSem P C.nt ops o s.env s.h st v h' f→o.wp P a w (wpOps P ops Q (List.range' (i+1) os.length++js)) Q:=by intro st v h' f hk hw hst;refine hst.exec g base _ w a _ Q r.post.inv hO (fun b _=>he.inD b) fun g' w' vc hv hp=>?_;exact zfx he hΓ hd Q js rest hN hQ os (i+1) hos ((s.put o.dst v).hp h') g' _ w' ⟨(r.env.mono hp.le).put hdo hv,dput _ _ r.defers,r.step he hp hw⟩ hk
  have pan:∀(v:V) (R:List Nat),K (.panic v) s→zjG P C.nt ops o s.env s.h v R→o.wp P a w (wpOps P ops Q (List.range' (i+1) os.length++js)) Q:=by intro v R hk hst;refine hst g base _ w a _ Q r.post.inv hO (fun b _=>he.inD b) fun g' w' vc hv hp=>?_;exact hQ _ _ _ ⟨.panic v,s,g',hk,⟨vc,hv,rfl⟩,r.env.mono hp.le,r.defers,r.step he hp rfl⟩
  have skip:∀ v,VRel g v undef→ARun C P ops os ((s.put o.dst v).hp s.h) K→wpOps P ops Q (List.range' (i+1) os.length++js) (a.put o.dst undef) w:=fun v hv hk=>
   zfx he hΓ hd Q js rest hN hQ os (i+1) hos ((s.put o.dst v).hp s.h) g _ w ⟨r.env.put hdo hv,dput _ _ r.defers,r.post⟩ hk
  unfold ARun at h;split at h
  ·rename_i hg;have hw:Region.wanted o (yielded ops a.tmps)=true:=by unfold Region.wanted;rw [hg]
   rw [if_pos hw];rcases zyc sem h with⟨st,v,h',f,hk,hwk,hst⟩|⟨v,R,hk,hst⟩
   ·exact .inl (go st v h' f hk hwk hst)
   ·exact .inl (pan v R hk hst)
  ·split at h;rotate_left;·exact h.elim
   rename_i gb hg;have hw:=znW hO.rel hg;rcases zpg sem h with⟨rfl,st,v,h',f,hk,hwk,hst⟩|⟨rfl,v,R,hk,hst⟩|⟨rfl,hk⟩|⟨v,R,hk,hst⟩
   ·rw [if_pos hw];exact .inl (go st v h' f hk hwk hst)
   ·rw [if_pos hw];exact .inl (pan v R hk hst)
   ·rw [if_neg (by rw [hw];simp)];exact skip _ (VRel.mk_tup rfl PW.nil) hk
   ·cases gb with
    |true=>rw [if_pos hw];refine .inl ?_;refine(hst rfl).exec g base _ w a _ Q r.post.inv hO (fun b _=>he.inD b) fun g' w' vc hv hp=>?_;exact zfx he hΓ hd Q js rest hN hQ os (i+1) hos ((s.put o.dst (.opt true v)).hp s.h) g' _ w' ⟨(r.env.mono hp.le).put hdo (zoF rfl hv),dput _ _ r.defers,r.step he hp rfl⟩ hk
    |false=>rw [if_neg (by rw [hw];simp)];exact skip _ (zhu rfl) hk
def zBa(C:Cfg)(P:Program)(K:Out→St→Prop)(st:List Fr)(y:Code)(os:List Oper)(k:Nat):Out→St→Prop
 | .norm,s=>∃ s',(Sub C s s'∨(C.Wm=[]∧∃ F,Fz C.nx F s s'))∧AXr C P K (.sem y::st) ⟨os⟩ (os.drop k) s'.env s'.h
 | .exit i,s=>unst C P K st (.exit i) s
 | .ret,s=>unst C P K st .ret s
 | .panic v,s=>unst C P K st (.panic v) s
theorem AXa.split(k:Nat){id:Nat}{os:List Oper}{y:Code}(hm:P.follows .mixedOrders=true)(hΓ:zdc P C.Γ)(hΔ:zaT P C.Δ)(hok:zas C.nt (.seq (.region id ⟨os⟩ false) y)=true)(hx:AXr C P (zBa C P K st y os k) [] ⟨os⟩ (os.take k) env h):
 AXa C P K st (.seq (.region id ⟨os⟩ false) y) env h:=by
 simp only [zas,Bool.and_eq_true]at hok
 refine AX.seq fun base D g0 H0 w0 g a w he r=>wp_region ?_
 have hy:∀ o s,unst C P K (.sem y::st) o s→zf3 (fun s=>AX C P y s (unst C P K st)) (unst C P K st) o s:=fun o s hk=>by
  cases o with
  |norm=>exact hk
  |exit i=>exact hk
  |ret=>exact hk
  |panic v=>exact hk
 have hq:∀ e a w,Aft C base D g0 H0 w0 (zbV C.keep (unst C P K (.sem y::st))) e a w→Aft C base D g0 H0 w0 (zf3 (fun s=>AX C P y s (unst C P K st)) (unst C P K st)) e a w:=fun e a w ⟨o,s,g,h1,h2,h3⟩=>by
  cases o with
  |norm=>exact⟨.norm,s.trim C.keep,g,hy .norm _ h1,h2,h3.env.trim C.keep,h3.defers,h3.post⟩
  |exit i=>exact⟨_,s,g,hy (.exit i) _ h1,h2,h3⟩
  |ret=>exact⟨_,s,g,hy .ret _ h1,h2,h3⟩
  |panic v=>exact⟨_,s,g,hy (.panic v) _ h1,h2,h3⟩
 have hd:=zbt hok.1.1
 have hlen:(⟨os⟩:Array Oper).size=os.length:=rfl
 rw [List.range_eq_range',hlen]
 by_cases hk:k≤os.length
 ·have hr:List.range' 0 os.length=List.range' 0 (os.take k).length++List.range' k (os.drop k).length:=by
   rw [List.length_take,List.length_drop,Nat.min_eq_left hk]
   have:=@List.range'_append_1 0 k (os.length - k)
   rw [Nat.zero_add]at this
   rw [this];congr 1;omega
  rw [hr]
  refine zfx (K:=zbV C.keep (zBa C P K st y os k)) he ⟨hΓ,hΔ⟩ hd _ _ (os.drop k) (fun s g a w r hk2=>?_) (fun e a w ⟨o,s,g,h1,h2,h3⟩=>?_) (os.take k) 0 (by simp) ⟨env,h⟩ g a w r hx
  ·obtain⟨s',hs,hx'⟩:=hk2
   have r1:Rel C base D g0 H0 w0 g (s.trim C.keep) a w:=⟨r.env.trim C.keep,r.defers,r.post⟩
   have hR:∃ g',Rel C base D g0 H0 w0 g' s' a w:=by
    rcases hs with hs|⟨hW,F,hs⟩
    ·exact r1.sub he hs
    ·exact r1.freeze he hW hs
   obtain⟨g',r'⟩:=hR
   exact zeN he ⟨hΓ,hΔ⟩ hd _ hq (os.drop k) k rfl s' g' a w r' hx'
  ·cases o with
   |norm=>exact h1.elim
   |exit i=>exact⟨.exit i,s,g,h1,h2,h3⟩
   |ret=>exact⟨.ret,s,g,h1,h2,h3⟩
   |panic v=>exact⟨.panic v,s,g,h1,h2,h3⟩
 ·have ht:os.take k=os:=List.take_of_length_le (by omega)
  have hdk:os.drop k=[]:=List.drop_eq_nil_of_le (by omega)
  rw [ht]at hx
  have hr:List.range' 0 os.length=List.range' 0 os.length++[]:=by simp
  rw [hr]
  refine zfx (K:=zbV C.keep (zBa C P K st y os k)) he ⟨hΓ,hΔ⟩ hd _ _ [] (fun s g a w r hk2=>?_) (fun e a w ⟨o,s,g,h1,h2,h3⟩=>?_) os 0 (by simp) ⟨env,h⟩ g a w r hx
  ·obtain⟨s',hs,hx'⟩:=hk2
   have r1:Rel C base D g0 H0 w0 g (s.trim C.keep) a w:=⟨r.env.trim C.keep,r.defers,r.post⟩
   have hR:∃ g',Rel C base D g0 H0 w0 g' s' a w:=by
    rcases hs with hs|⟨hW,F,hs⟩
    ·exact r1.sub he hs
    ·exact r1.freeze he hW hs
   obtain⟨g',r'⟩:=hR
   rw [hdk]at hx'
   exact zeN (ops:=⟨os⟩) he ⟨hΓ,hΔ⟩ hd _ hq [] os.length (by simp) s' g' a w r' hx'
  ·cases o with
   |norm=>exact h1.elim
   |exit i=>exact⟨.exit i,s,g,h1,h2,h3⟩
   |ret=>exact⟨.ret,s,g,h1,h2,h3⟩
   |panic v=>exact⟨.panic v,s,g,h1,h2,h3⟩
theorem AXr.mono {K K':Out→St→Prop}{ops:Array Oper}:∀ {os:List Oper} {env:Env} {h:Hp},(∀ o s,K o s→K' o s)→AXr C P K [] ops os env h→AXr C P K' [] ops os env h:=by
 have key:∀(os:List Oper) (s:St) (K K':Out→St→Prop),(∀ o s,K o s→K' o s)→ARun C P ops os s K→ARun C P ops os s K':=by
  intro os;induction os with
  |nil=>intro s K K' hk h;exact hk _ _ h
  |cons o os ih=>
   intro s K K' hk h;unfold ARun at h ⊢;split at h
   ·unfold fol at h ⊢;split at h
    ·exact⟨h.1,h.2.1,ih _ _ _ hk h.2.2⟩
    ·exact⟨h.1,hk _ _ h.2⟩
    ·exact h
   ·split at h
    ·unfold folG at h ⊢;split at h
     ·exact⟨h.1,ih _ _ _ hk h.2⟩
     ·split at h
      ·rename_i hb;rw [if_pos hb];exact⟨h.1,h.2.1,ih _ _ _ hk h.2.2⟩
      ·rename_i hb;rw [if_neg hb];exact ih _ _ _ hk h
     ·split at h
      ·rename_i hb;rw [if_pos hb];exact⟨h.1,hk _ _ h.2⟩
      ·rename_i hb;rw [if_neg hb];exact ih _ _ _ hk h
     ·exact⟨h.1,ih _ _ _ hk h.2⟩
    ·exact h
 intro os env h hk hx;refine key os ⟨env,h⟩ _ _ (fun o s k=>?_) hx;cases o with
 |norm=>exact hk _ _ k
 |exit i=>exact hk _ _ k
 |ret=>exact hk _ _ k
 |panic v=>exact hk _ _ k
def skV:SR→V
 | .ok true _ v _ _=>.opt false v
 |_=>undefV
theorem zlp {ops:Array Oper}{os:List Oper}(d:Tmp)(r:SR):AXg1 C P K st ops os (some d) (some false) r env h=AXr C P K st ops os ((d,skV r)::env) h:=by
 apply propext;cases r with
 |ok st' pre v h' f=>
  cases st' with
  |true=>exact⟨fun k=>k.2,fun k=>⟨fun e=>(by cases e),k⟩⟩
  |false=>exact Iff.rfl
 |pan pre v R=>exact Iff.rfl
 |bad=>exact⟨fun k=>k.2,fun k=>⟨rfl,k⟩⟩
theorem zwy(a:V)(y:Bool)(H:Hp):zcx (.opt true (.bool false)) a (.bool y) H=.ok true True (.bool y) H ⟨[],[],0,0⟩:=by unfold zcx;cases ha:a.val<;>simp [V.val,V.cond]
attribute [go_sem] List.take_succ_cons List.drop_succ_cons
end Go.Ab

namespace Go.Proofs
open Go.Ab Go.Cnt
theorem zin {P:Program}(t:TypeId)(a b c:V)(bs:List (Nat×Blk))(m:Nat):zS P t 3 [(0,a),(1,b),(2,c)] ⟨bs,m⟩=bsL (zcj P t) [a,b,c] ⟨bs,m⟩ (zcT P t 3 [(0,a),(1,b),(2,c)] ⟨bs,m⟩):=by
 unfold bsL;split
 ·rename_i s z hb;split
  ·rename_i hc;obtain⟨rfl,h1,h2,h3⟩:=hc;simp only [List.all_cons,List.all_nil,Bool.and_true,Bool.and_eq_true]at h3;obtain⟨a1,a2⟩:=V.one_cells h3.1;obtain⟨b1,b2⟩:=V.one_cells h3.2.1;obtain⟨c1,c2⟩:=V.one_cells h3.2.2;unfold zcj at hb;split at hb
   ·rename_i e he;split at hb
    ·rename_i s' z' k1 k2;cases hb;match hz:(cv z).cellsV,h2 with
     |[y],_=>
      have zz:zbg P e 3=[y,y,y]:=by simp [zbg,k2,hz]
      simp [zS,he,k1,k2,zdt,a1,a2,b1,b2,c1,c2,zz,hz,h1,putCells,Hp.new]
    ·cases hb
   ·cases hb
  ·rfl
 ·rfl
attribute [go_sem] zin
theorem zcZ(l:List Str):strR.cells l=strs l:=by
 induction l with
 |nil=>rfl
 |cons a l ih=>rw [Row.cells_cons,ih];rfl
def rowR:Row (List Str) where
 enc s:=[.fs (strs s) s.length]
 n:=1
 dflt:=[]
 len _:=rfl
 pos:=by decide
 pure a x h:=by simp only [List.mem_cons,List.not_mem_nil,or_false]at h;subst h;exact .fs (zae a)
 one _:=rfl
 inj a b h:=by simp only [List.cons.injEq,V.fs.injEq,and_true]at h;exact zaN h.1
theorem zvT(l:List (List Str)):(slR strR).cells l=rowR.cells l:=by
 induction l with
 |nil=>rfl
 |cons a l ih=>rw [Row.cells_cons,Row.cells_cons,ih];show [V.fs (strR.cells a) a.length]++_=[V.fs (strs a) a.length]++_;rw [zcZ]
def zu(m:List (List Str)):List V:=rowR.cells m
def nthR(m:List (List Str))(i:Nat):List Str:=rowR.nth m i
theorem zqq(m:List (List Str))(i:Nat)(h:i<m.length):(zu m).drop i=.fs (strs (nthR m i)) (nthR m i).length::zu (m.drop (i+1)):=by have:=rowR.at_ m i h;rwa [show i*rowR.n=i from Nat.mul_one i]at this
theorem zaP(m:List (List Str)):∀ x∈zu m,Pure x:=rowR.pure_cells m
theorem zho(m:List (List Str)):(∀ x∈zu m,Pure x)↔True:=rowR.pure_cellsP m
theorem zxx(m:List (List Str)):(zu m).length=m.length:=(rowR.len_cells m).trans (Nat.mul_one _)
theorem zsX {π:Nat→Nat}{N:Nat→Prop}(m:List (List Str)):LRel (Rn π N) (zu m) (zu m)↔True:=rowR.lrel_cells m
theorem zc2 {a b:List (List Str)}(h:zu a=zu b):a=b:=rowR.cells_inj h
def matR:Row (List (List Str)) where
 enc m:=[.fs (zu m) m.length]
 n:=1
 dflt:=[]
 len _:=rfl
 pos:=by decide
 pure a x h:=by simp only [List.mem_cons,List.not_mem_nil,or_false]at h;subst h;exact .fs (zaP a)
 one _:=rfl
 inj a b h:=by simp only [List.cons.injEq,V.fs.injEq,and_true]at h;exact zc2 h.1
def ziw(l:List (List (List Str))):List V:=matR.cells l
def nthM(l:List (List (List Str)))(i:Nat):List (List Str):=matR.nth l i
theorem matsC_at(m:List (List (List Str)))(i:Nat)(h:i<m.length):(ziw m).drop i=.fs (zu (nthM m i)) (nthM m i).length::ziw (m.drop (i+1)):=by have:=matR.at_ m i h;rwa [show i*matR.n=i from Nat.mul_one i]at this
theorem zxz(m:List (List (List Str))):(ziw m).length=m.length:=(matR.len_cells m).trans (Nat.mul_one _)
theorem zsY {π:Nat→Nat}{N:Nat→Prop}(m:List (List (List Str))):LRel (Rn π N) (ziw m) (ziw m)↔True:=matR.lrel_cells m
attribute [go_sem] zho zxx zsX zxz zsY List.getElem?_cons_zero List.getElem?_cons_succ
structure Mdl where
 tags:List Str
 words:List Str
 next:List (List Str)
 emit:List (List Str)
def mdlV(m:Mdl):V:=.agg [.fs (strs m.tags) m.tags.length,.fs (strs m.words) m.words.length,.fs (zu m.next) m.next.length,.fs (zu m.emit) m.emit.length]
theorem zdp(m:Mdl):Pure (mdlV m):=.agg fun x h=>by
 simp only [List.mem_cons,List.not_mem_nil,or_false]at h;rcases h with rfl|rfl|rfl|rfl
 ·exact .fs (zae _)
 ·exact .fs (zae _)
 ·exact .fs (zaP _)
 ·exact .fs (zaP _)
theorem zgC {a b:Mdl}(h:mdlV a=mdlV b):a=b:=by obtain⟨a1,a2,a3,a4⟩:=a;obtain⟨b1,b2,b3,b4⟩:=b;simp only [mdlV,V.agg.injEq,List.cons.injEq,V.fs.injEq,and_true]at h;obtain⟨⟨h1,_⟩,⟨h2,_⟩,⟨h3,_⟩,⟨h4,_⟩⟩:=h;rw [zaN h1,zaN h2,zc2 h3,zc2 h4]
theorem zrH {p:Str→Bool}{l:List Str}(h:∀ i,i<l.length→p (l.getD i [])=true):l.all p=true:=List.all_eq_true.2 fun x hx=>by obtain⟨i,hi,rfl⟩:=List.mem_iff_getElem.1 hx;have:=h i hi;rwa [List.getD_eq_getElem?_getD,List.getElem?_eq_getElem hi]at this
theorem zfi {l:List Str}{i:Nat}(hi:i<l.length):l.getD i []∈l:=by rw [List.getD_eq_getElem?_getD,List.getElem?_eq_getElem hi];exact List.getElem_mem hi
theorem zrI {p:Str→Bool}{l:List Str}{i:Nat}(hi:i<l.length)(h:p (l.getD i [])=false):l.all p=false:=by
 cases e:l.all p with
 |false=>rfl
 |true=>rw [List.all_eq_true.1 e _ (zfi hi)]at h;cases h
end Go.Proofs

namespace Go.Proofs
open Tryz Go.Ab Go.Cnt
def nameB(s:Str):Bool:= !(s==[])&&decide (s.length≤40)
theorem zxK(s:Str):PCall prog 106 [.str s] (.ret (.bool (nameB s))):=by refine PCall.wD (rs:=[.tmp 2]) [0,2] [] mixed (zh) (zg) call106 func106 rfl ntmps106 rfl ?_;simp only [go_sem];have e:decide ((s.length:Int)≤40)=decide (s.length≤40):=decide_eq_decide.2 (by omega);unfold nameB;rw [e];cases s<;>simp
noncomputable def cName:List V→Option PR:=zF (fun a:Str=>[.str a]) (fun _=>True) fun a=>.ret (.bool (nameB a))
theorem cName_eq(a:Str):cName [.str a]=some (.ret (.bool (nameB a))):=zo (pat:=fun a:Str=>[.str a]) (fun x y h=>by simpa using h) a trivial
theorem cName_ok:∀ args r,cName args=some r→PCall prog 106 args r:=zn fun a _=>zxK a
attribute [go_sem] cName_eq
theorem isNaN_ok(s:Str):PCall prog 143 [.str s] (.ret (.bool false)):=by refine PCall.wD (rs:=[.tmp 2]) [0,2] [] mixed (zh) (zg) call143 func143 rfl ntmps143 rfl ?_;simp only [go_sem]
noncomputable def cIsNaN:List V→Option PR:=zF (fun a:Str=>[.str a]) (fun _=>True) fun _=>.ret (.bool false)
theorem zz2(a:Str):cIsNaN [.str a]=some (.ret (.bool false)):=zo (pat:=fun a:Str=>[.str a]) (fun x y h=>by simpa using h) a trivial
theorem znh:∀ args r,cIsNaN args=some r→PCall prog 143 args r:=zn fun a _=>isNaN_ok a
attribute [go_sem] zz2
theorem cmpS_ok(a b:Str):PCall prog 104 [.str a,.str b] (.ret (.int .i64 (cmpS a b))):=by
 refine PCall.wD (rs:=[.tmp 4]) [0,1,4,5,6,11,12,13,16,19] [] mixed (zf znh zh) (zg) call104 func104 rfl ntmps104 rfl ?_;simp only [go_sem];rcases zjr a b with⟨h,e⟩|⟨h,e⟩|⟨h,h',e⟩
 ·have h1:ltS a b=true:=h;simp only [go_sem,h1,e]
 ·subst h;have h1:ltS a a=false:=zbi a;simp only [go_sem,h1,e]
 ·have h1:ltS a b=false:=h';have h2:¬a=b:=fun he=>by subst he;rw [zbi]at h;cases h
  simp only [go_sem,h1,h2,decide_false,e]
noncomputable def cCmpS:List V→Option PR:=zF (fun p:Str×Str=>[.str p.1,.str p.2]) (fun _=>True) fun p=>.ret (.int .i64 (cmpS p.1 p.2))
theorem cCmpS_eq(a b:Str):cCmpS [.str a,.str b]=some (.ret (.int .i64 (cmpS a b))):=zo (pat:=fun p:Str×Str=>[.str p.1,.str p.2]) (fun x y h=>by simp at h;exact Prod.ext h.1 h.2) (a,b) trivial
theorem zlk:∀ args r,cCmpS args=some r→PCall prog 104 args r:=zn fun p _=>cmpS_ok p.1 p.2
attribute [go_sem] cCmpS_eq
end Go.Proofs

namespace Go.Proofs
open Go.Ab Go.Cnt
theorem all_t {p:Ent→Bool}:∀ {l:List Ent},(∀ i,i<l.length→p (nthE l i)=true)→l.all p=true
 |[],_=>rfl
 |e::l,h=>by rw [List.all_cons,all_t (l:=l) fun i hi=>h (i+1) (by simpa using hi)];have:=h 0 (by simp);simpa [nthE] using this
theorem nthE_mem {l:List Ent}{i:Nat}(h:i<l.length):nthE l i∈l:=by unfold nthE;rw [List.getD_eq_getElem?_getD,List.getElem?_eq_getElem h];exact List.getElem_mem h
theorem all_f {p:Ent→Bool}{l:List Ent}{i:Nat}(hi:i<l.length)(h:p (nthE l i)=false):l.all p=false:=by
 cases e:l.all p with
 |false=>rfl
 |true=>rw [List.all_eq_true.1 e _ (nthE_mem hi)]at h;cases h
end Go.Proofs

namespace Go.Proofs
open Tryz Go.Ab Go.Cnt
noncomputable def incS(l:List Str):Bool:=@decide (∀ i,i+1<l.length→cmpS (l.getD i []) (l.getD (i+1) [])<0) (Classical.propDecidable _)
open Classical in
theorem incS_t {l:List Str}(h:∀ i,i+1<l.length→cmpS (l.getD i []) (l.getD (i+1) [])<0):incS l=true:=by unfold incS;exact decide_eq_true h
open Classical in
theorem incS_f {l:List Str}{i:Nat}(hi:i+1<l.length)(h:¬cmpS (l.getD i []) (l.getD (i+1) [])<0):incS l=false:=by unfold incS;exact decide_eq_false fun k=>h (k i hi)
theorem incrS_ok(l:List Str)(hl:l.length≤1000000):PCall prog 103 [.fs (strs l) l.length,.fn 104 []] (.ret (.bool (incS l))):=by
 refine PCall.wD (rs:=[.tmp 4]) [0,1,4,5,9,23] [] mixed (zf zlk zh) (zg) call103 func103 rfl ntmps103 rfl ?_;simp only [go_sem];refine AXs.loop mixed (zf zlk zh) (zg) (fun i:Nat=>[(0,.fs (strs l) l.length),(1,.fn 104 []),(5,.int .i64 i)]) (fun _=>⟨[],0⟩) (fun i=>1≤i∧(i≤1∨i≤l.length)∧∀ j,j+1<i→cmpS (l.getD j []) (l.getD (j+1) [])<0) (fun i=>l.length+1 - i) 1 (by kernel_rfl)
  ⟨Nat.le_refl _,.inl (Nat.le_refl _),fun j hj=>by omega⟩ (Sub.of0 [] rfl rfl ?_ ?_) ?_
 ·simp only [go_sem]
 ·simp only [go_sem]
 rintro i ⟨h1,h2,h3⟩;simp only [go_sem];refine AXc.introP (fun h4=>?_) (fun h4=>?_)
 ·simp (disch:=first|assumption|(push_cast<;>omega)|omega) only [go_sem]
  (repeat refine sdC ?_);refine AXc.introP (fun h5=>?_) (fun h5=>?_)
  ·simp only [go_sem];exact(incS_f (i:=i - 1) (by omega) (by rw [show i - 1+1=i by omega];omega)).symm
  ·simp (disch:=first|assumption|(push_cast<;>omega)|omega) only [go_sem];refine zk (i+1) ⟨by omega,by omega,fun j hj=>?_⟩ (by omega) (Sub.of0 [] rfl rfl ?_ ?_)
   ·by_cases hji:j+1<i
    ·exact h3 j hji
    ·have:j=i - 1:=by omega
     subst this;rw [show i - 1+1=i by omega];omega
   ·simp only [go_sem];simp
   ·simp only [go_sem]
 ·simp only [go_sem];refine AXa.go mixed (zf zlk zh) (zg) (by kernel_rfl) ?_;simp only [go_sem];exact(incS_t fun j hj=>h3 j (by omega)).symm
noncomputable def cIncrS:List V→Option PR:=zF (fun l:List Str=>[.fs (strs l) l.length,.fn 104 []]) (fun l=>l.length≤1000000) fun l=>.ret (.bool (incS l))
@[go_sem] theorem cIncrS_eq(l:List Str)(hl:l.length≤1000000):cIncrS [.fs (strs l) l.length,.fn 104 []]=some (.ret (.bool (incS l))):=
 zo (pat:=fun l:List Str=>[.fs (strs l) l.length,.fn 104 []]) (fun x y h=>by simp at h;exact zaN h.1) l hl
theorem zz5:∀ args r,cIncrS args=some r→PCall prog 103 args r:=zn incrS_ok
end Go.Proofs

namespace Go.Ab
variable {P:Program}
theorem HCall.view1 {f:FuncId}{args:List V}{X:List V}{o n sz:Nat}(hN:NCall P f args [.cells X] [] (.sl 0 o n sz Option.none) ⟨[(0,.cells X)],1⟩)(hX:∀ x∈X,Pure x)
 (b:Nat) (args':List V) (H:Hp) (ha:LRel (Rn (fun i=>[b].getD i 0) (· <1)) args args') (hb:H.get b=some (.cells X)) (hk:∀ b x,H.get b=some x→b<H.next):
 HCall P f args' H ⟨True,.sl b o n sz Option.none,H,[b],[]⟩:=by
 have tc:zK [b] H.next b=0:=by unfold zK;rw [if_pos (hk b _ hb)];simp
 refine HCall.of hN [b] args' (.sl b o n sz Option.none) H H rfl (by simp) ha (fun i x hx=>?_) ?_ rfl (fun b' x' hx'=>?_) (fun b' hb' hw=>rfl)
 ·match i with
  |0=>cases hx;exact⟨b,_,rfl,hb,.cells (zA hX)⟩
  |i+1=>simp at hx
 ·have:=Rn.sl (π:=zK [b] H.next) (N:=fun b'=>b'∈[b]∨(H.next≤b'∧b'<H.next)) (b:=b) (off:=o) (len:=n) (sz:=sz) (kc:=Option.none) (kc':=Option.none) (.inl (by simp)) (.inl rfl)
  rwa [tc]at this
 ·by_cases he:b'=b
  ·subst he
   rw [hb]at hx'
   cases hx'
   refine .inr ⟨.inl (by simp),.cells X,?_,.cells (zA hX)⟩
   rw [tc];rfl
  ·exact .inl ⟨hk b' _ hx',by simpa using he,hx'⟩
theorem HCall.putS {f:FuncId}{args:List V}{X0 X:List V}{v:V}(hN:NCall P f args [.cells X0] [0] v ⟨[(0,.cells X)],1⟩)(hv:Pure v)(hX0:∀ x∈X0,Pure x)(hX:∀ x∈X,Pure x)
 (b:Nat) (args':List V) (H:Hp) (ha:LRel (Rn (fun i=>[b].getD i 0) (· <1)) args args') (hb:H.get b=some (.cells X0)) (hk:∀ b x,H.get b=some x→b<H.next):
 HCall P f args' H ⟨True,v,H.put b (.cells X),[b],[b]⟩:=by
 have tc:zK [b] H.next b=0:=by unfold zK;rw [if_pos (hk b _ hb)];simp
 refine HCall.of hN [b] args' v H (H.put b (.cells X)) rfl (by simp) ha (fun i x hx=>?_) (.same hv) rfl (fun b' x' hx'=>?_) (fun b' hb' hw=>?_)
 ·match i with
  |0=>cases hx;exact⟨b,_,rfl,hb,.cells (zA hX0)⟩
  |i+1=>simp at hx
 ·rw [Hp.get_put]at hx'
  split at hx'
  ·rename_i he
   subst he
   rw [hb]at hx'
   cases hx'
   refine .inr ⟨.inl (by simp),.cells X,?_,.cells (zA hX)⟩
   rw [tc];rfl
  ·rename_i he
   exact .inl ⟨hk b' _ hx',by simpa using he,hx'⟩
 ·rw [Hp.get_put,if_neg (by simpa using hw)]
end Go.Ab

namespace Go.Ab
variable {P:Program}{C:Cfg}{K:Out→St→Prop}{st:List Fr}{env:Env}{h:Hp}
def KToF {α:Type}(C:Cfg)(P:Program)(K:Out→St→Prop)(st:List Fr)(p:α→Prop)(S:α→St):Out→St→Prop
 | .norm,s=>∃ i,p i∧(Sub C s (S i)∨(C.Wm=[]∧∃ F,Fz C.nx F s (S i)))
 | .exit i,s=>unst C P K st (.exit i) s
 | .ret,s=>unst C P K st .ret s
 | .panic v,s=>unst C P K st (.panic v) s
theorem zdX {α:Type}{p:α→Prop}{S:α→St}{s:St}(i:α)(hi:p i)(hs:Sub C s (S i)):KToF C P K st p S .norm s:=⟨i,hi,.inl hs⟩
theorem AXa.cutF {α:Type}(n:Nat)(pr:α→Prop)(env':α→Env)(h':α→Hp){y p q:Code}(hn:takeC n y=some (p,q))(hm:P.follows .mixedOrders=true)(hΓ:zdc P C.Γ)(hΔ:zaT P C.Δ)(hok:zas C.nt y=true)
 (hx:AXs C P (KToF C P K st pr fun i=>⟨env' i,h' i⟩) [] p env h) (hc:∀ i,pr i→AXa C P K st q (env' i) (h' i)):AXa C P K st y env h:=
 zjU hm ⟨hΓ,hΔ⟩ n y p q ⟨env,h⟩ _ _ hn hok hx fun o s k=>by
  cases o with
  |norm=>
   obtain⟨i,hi,k⟩:=k;rcases k with k|⟨hW,F,k⟩
   ·exact AX.sub k (hc i hi)
   ·exact AX.freeze hW k (hc i hi)
  |exit i=>exact k
  |ret=>exact k
  |panic v=>exact k
theorem NCall.walkWA {nt:Nat}(keep:List Nat)(fz:List Nat)(nx:Nat)(W:List Nat){Γ:FuncId→List V→Option PR}{Δ:FuncId→List V→Hp→Option AR}{f:FuncId}{fn:Func}{c:Code}{args:List V}{F:List Blk}{v:V}{Hc:Hp}{rs:List ResultVar}
 (hm:P.follows .mixedOrders=true) (hΓ:zdc P Γ) (hΔ:zaT P Δ) (hc:zi P f) (hf:P.funcs[f]? =some fn) (hb:fn.body=some c) (hnt:fn.ntmps=nt) (hrs:fn.results.toList=rs) (hok:zas nt c=true) (hle:args.length≤nt) (hnx:nx=F.length) (hW:∀ b∈W,b<F.length) (hn:F.length≤Hc.next)
 (h:AXa ⟨nt,zbm keep,Γ,Δ,nx,W,zbm fz⟩ P (EndN ⟨nt,zbm keep,Γ,Δ,nx,W,zbm fz⟩ P rs v Hc) [] c (zbT 0 args) ⟨numB 0 F,nx⟩):NCall P f args F W v Hc:=by
 subst hnx
 refine NCall.of (C:=⟨nt,zbm keep,Γ,Δ,F.length,W,zbm fz⟩) hc hf hb hnt hle rfl hW hn ?_
 refine AX.mono h fun o s hk=>?_
 subst hrs
 cases o with
 |norm=>obtain⟨env',h1,h2,h3⟩:=hk;exact⟨.inl rfl,_,h1,rfl,h2,h3⟩
 |ret=>obtain⟨env',h1,h2,h3⟩:=hk;exact⟨.inr rfl,_,h1,rfl,h2,h3⟩
 |exit i=>exact hk.elim
 |panic v=>exact hk.elim
end Go.Ab

namespace Go.Ab
def FzB(H:Hp)(F:Nat→Prop)(n:Nat)(x' x:Blk):Prop:=
 RnB id (fun b=>¬F b∧b<n) x' x∨∃ cs cs',x=.cells cs∧x'=.cells cs'∧cs'.length=cs.length∧∀(i:Nat) (u v:V),cs[i]? =some u→cs'[i]? =some v→Rn id (fun b=>¬F b∧b<n) v u∨FrzF H F u v
structure Fz2(nx:Nat)(F:Nat→Prop)(s s':St):Prop where
 env:∀ t v',s'.env.lookup t=some v'→v'=.any∨∃ v,s.env.lookup t=some v∧(Rn id (fun b=>¬F b∧b<s'.h.next) v' v∨FrzF s.h F v v')
 heap:∀ b x',s'.h.get b=some x'→b<s'.h.next∧¬F b∧∃ x,s.h.get b=some x∧FzB s.h F s'.h.next x' x
 live:∀ b,F b→nx≤b∧∃ x,s.h.get b=some x
 elder:∀ b,b<nx→s'.h.get b=s.h.get b
 next:nx≤s'.h.next
open Classical in
theorem Rel.freeze2 {C:Cfg}{base:Nat}{D:Nat→Prop}{g0:G}{H0:Hp}{w0:World}{g:G}{F:Nat→Prop}{s s':St}{a:Act}{w:World}(he:Entry C base D g0 H0 w0)(r:Rel C base D g0 H0 w0 g s a w)(hW:C.Wm=[])(h:Fz2 C.nx F s s'):
 ∃ g',Rel C base D g0 H0 w0 g' s' a w:=by
 let cellsAt:Nat→Option (Array Value):=fun c=>match w.heap[c]? with|some (.cells arr _ _)=>some arr|_=>none
 let g':G:=⟨fun b=>if ¬F b∧b<s'.h.next then g.mu b else none,fun c=>(g.phi c).or (if ∃ b T,F b∧g.mu b=some T∧T.c=c then cellsAt c else none)⟩
 have hp:∀ c a,g.phi c=some a→g'.phi c=some a:=fun c a e=>by show (g.phi c).or _=_;rw [e];rfl
 have hm:∀ b,(¬F b∧b<s'.h.next)→g'.mu b=g.mu (id b):=fun b hb=>if_pos hb
 have hm':∀ b T,g'.mu b=some T→(¬F b∧b<s'.h.next)∧g.mu b=some T:=by
  intro b T e;simp only [g']at e;split at e
  ·rename_i hb;exact⟨hb,e⟩
  ·cases e
 have pnx:=he.nx
 have ha:∀ b T arr t,F b→g.mu b=some T→w.heap[T.c]? =some (.cells arr t (0,0))→g'.phi T.c=some arr:=by
  intro b T arr t hF hmu hh;show (g.phi T.c).or _=_;obtain⟨x,hx⟩:=(h.live b hF).2;obtain⟨T1,o,e1,e2,_⟩:=r.post.inv.cont b x (he.inD b) hx;obtain rfl:T1=T:=by rw [hmu]at e1;exact(Option.some.inj e1).symm
  rw [e2,if_pos ⟨b,T1,hF,hmu,rfl⟩];show cellsAt T1.c=some arr;simp only [cellsAt,hh]
 have hphi:∀ c a,g'.phi c=some a→g.phi c=some a∨((∃ b T,F b∧g.mu b=some T∧T.c=c)∧cellsAt c=some a):=by
  intro c a e;have e':(g.phi c).or (if ∃ b T,F b∧g.mu b=some T∧T.c=c then cellsAt c else none)=some a:=e;cases e1:g.phi c with
  |some a'=>rw [e1]at e';left;exact e'
  |none=>
   rw [e1]at e';simp only [Option.none_or]at e';split at e'
   ·rename_i hc;exact .inr ⟨hc,e'⟩
   ·cases e'
 refine⟨g',⟨⟨r.env.glob.mono hp,r.env.size,fun t v' e=>?_⟩,r.defers,?_⟩⟩
 ·rcases h.env t v' e with rfl|⟨v,ev,rn|fz⟩
  ·exact .any _
  ·exact(r.env.rel t v ev).rn hp hm rn
  ·exact fz.rel r.post.inv (fun b _=>he.inD b) hp ha (r.env.rel t v ev)
 ·have own:∀ b T,g.mu b=some T→C.nx≤b→w0.heap.size≤T.c:=by
   intro b T e hb
   rcases r.post.newmu b T e with e0|⟨_,hc|⟨b0,h0,_⟩⟩
   ·have:=(he.inv.dom b T e0).1;omega
   ·exact hc
   ·rw [hW]at h0;cases h0
  refine⟨?_,?_,?_,?_,r.post.frame,r.post.size,r.post.os,r.post.tape,r.post.output,?_,?_⟩
  ·refine⟨fun b T e=>?_,fun c a e=>hp c a (r.post.le.2 c a e)⟩
   have hb:=(he.inv.dom b T e).1
   have hnF:¬F b:=fun hF=>by have:=(h.live b hF).1;omega
   have:g'.mu b=g.mu b:=hm b ⟨hnF,by have:=h.next;omega⟩
   rw [this]
   exact r.post.le.1 b T e
  ·refine⟨fun c a e=>?_,fun b T e=>?_,fun b x e=>(h.heap b x e).1,fun b x _ e=>?_,fun b b' x x' T T' _ _ e e' m m' ec=>?_,r.post.inv.base⟩
   ·rcases hphi c a e with e|⟨_,e⟩
    ·exact r.post.inv.frz c a e
    ·simp only [cellsAt]at e
     split at e
     ·rename_i arr t fr hh;cases e;exact⟨t,fr,hh⟩
     ·cases e
   ·obtain⟨h1,h2⟩:=hm' b T e
    exact⟨h1.2,(r.post.inv.dom _ T h2).2⟩
   ·obtain⟨hb,hnF,y,hy,rn⟩:=h.heap b x e
    obtain⟨T,o,e1,e2,e3,e4⟩:=r.post.inv.cont _ y (he.inD _) hy
    refine⟨T,o,(hm b ⟨hnF,hb⟩).trans e1,?_,e3,?_⟩
    rotate_left
    ·rcases rn with rn|⟨cs,cs',rfl,rfl,hl,hc⟩
     ·exact e4.rn hp hm rn
     ·cases e4 with
      |cells hs hbd hpw=>
       refine .cells hs (by omega) fun i v hv=>?_
       have hlt:=(List.getElem?_eq_some_iff.1 hv).1
       obtain⟨u,hu,ru⟩:=hpw i _ (List.getElem?_eq_getElem (by omega))
       refine⟨u,hu,?_⟩
       rcases hc i _ v (List.getElem?_eq_getElem (by omega)) hv with k|k
       ·exact ru.rn hp hm k
       ·exact k.rel r.post.inv (fun b _=>he.inD b) hp ha ru
    cases e5:g'.phi T.c with
    |none=>rfl
    |some ar=>
     rcases hphi _ _ e5 with e6|⟨⟨b1,T1,hF1,hm1,hc1⟩,_⟩
     ·rw [e2]at e6;cases e6
     ·obtain⟨x1,hx1⟩:=(h.live b1 hF1).2
      have:=r.post.inv.inj b1 b x1 y T1 T (he.inD _) (he.inD _) hx1 hy hm1 e1 hc1
      subst this
      exact absurd hF1 hnF
   ·obtain⟨hb,hnF,y,hy,_⟩:=h.heap b x e
    obtain⟨hb',hnF',y',hy',_⟩:=h.heap b' x' e'
    exact r.post.inv.inj _ _ y y' T T' (he.inD _) (he.inD _) hy hy' (hm' b T m).2 (hm' b' T' m').2 ec
  ·intro b T e
   exact r.post.newmu b T (hm' b T e).2
  ·intro c a e
   rcases hphi c a e with e|⟨⟨b,T,hF,hmu,rfl⟩,_⟩
   ·exact r.post.newphi c a e
   ·exact .inr (own b T hmu (h.live b hF).1)
  ·intro b hb hn
   rw [h.elder b (by omega)]
   exact r.post.aframe b hb hn
  ·have:=h.next;omega
theorem AX.freeze2 {C:Cfg}{P:Program}{K:Out→St→Prop}{F:Nat→Prop}{c:Code}{s s':St}(hW:C.Wm=[])(hs:Fz2 C.nx F s s')(h:AX C P c s' K):AX C P c s K:=fun base D g0 H0 w0 _ a w he r=>
 let ⟨g',r'⟩:=r.freeze2 he hW hs
 h base D g0 H0 w0 g' a w he r'
def lFz(H:Hp)(F:Nat→Prop)(n:Nat):List V→List V→Prop
 |[],[]=>True
 |u::cs,v::cs'=>(Rn id (fun b=>¬F b∧b<n) v u∨FrzF H F u v)∧lFz H F n cs cs'
 |_,_=>False
theorem lFz_ok {H:Hp}{F:Nat→Prop}{n:Nat}:∀ {cs cs':List V},lFz H F n cs cs'→cs'.length=cs.length∧∀(i:Nat) (u v:V),cs[i]? =some u→cs'[i]? =some v→Rn id (fun b=>¬F b∧b<n) v u∨FrzF H F u v
 |[],[],_=>⟨rfl,fun i u v h=>by simp at h⟩
 |u::cs,v::cs',h=>by
  obtain⟨h1,h2⟩:=h;obtain⟨k1,k2⟩:=lFz_ok h2;refine⟨by simp [k1],fun i x y hx hy=>?_⟩;match i with
  |0=>cases hx;cases hy;exact h1
  |i+1=>exact k2 i x y (by simpa using hx) (by simpa using hy)
 |[],_::_,h=>h.elim
 |_::_,[],h=>h.elim
def fzC(H:Hp)(F:Nat→Prop)(n:Nat)(bs:List (Nat×Blk)):List (Nat×List V)→Prop
 |[]=>True
 |(b,cs')::r=>(b<n∧¬F b∧zr8 (zar bs b) (fun y=>match y with| .cells cs=>lFz H F n cs cs'|_=>False))∧fzC H F n bs r
def cellB(l:List (Nat×List V)):List (Nat×Blk):=l.map fun p=>(p.1,.cells p.2)
theorem fzC_ok {H:Hp}{F:Nat→Prop}{n:Nat}{bs:List (Nat×Blk)}:∀ {bs':List (Nat×List V)},fzC H F n bs bs'→∀ b x',(cellB bs').lookup b=some x'→b<n∧¬F b∧∃ x,zar bs b=some x∧FzB H F n x' x
 |[],_,b,x',h=>by cases h
 |(k,u)::r,hs,b,x',h=>by
  rw [cellB,List.map_cons,List.lookup_cons]at h;by_cases hk:b=k
  ·subst hk;simp only [beq_self_eq_true,Option.some.injEq]at h;subst h;obtain⟨⟨h1,h0,h2⟩,_⟩:=hs;refine⟨h1,h0,?_⟩;cases e:zar bs b with
   |none=>rw [e]at h2;exact h2.elim
   |some y=>
    rw [e]at h2;cases y with
    |cells cs=>obtain⟨k1,k2⟩:=lFz_ok (show lFz H F n cs u from h2);exact⟨_,rfl,.inr ⟨cs,u,rfl,rfl,k1,k2⟩⟩
    |_=>exact(show False from h2).elim
  ·have hb:(b==k)=false:=by simp [hk]
   simp only [hb]at h;exact fzC_ok hs.2 b x' h
theorem AXa.fz2 {C:Cfg}{P:Program}{K:Out→St→Prop}{st:List Fr}{y:Code}{env env':Env}{bs:List (Nat×Blk)}{n n':Nat}(fl:List Nat)(bs':List (Nat×List V))(hW:C.Wm=[])(h0:C.nx=0)(hl:(fl.all fun b=>(zar bs b).isSome)=true)
 (he:fzE (· ∈fl) n' ⟨bs,n⟩ env env') (hh:fzC ⟨bs,n⟩ (· ∈fl) n' bs bs') (hx:AXa C P K st y env' ⟨cellB bs',n'⟩):AXa C P K st y env ⟨bs,n⟩:=by
 refine AX.freeze2 (F:=(· ∈fl)) hW ⟨zx7 he,fun b x' e=>?_,fun b hb=>⟨by omega,?_⟩,fun b hb=>by omega,by rw [h0];exact Nat.zero_le _⟩ hx
 ·obtain⟨h1,h2,x,h3,h4⟩:=fzC_ok hh b x' e
  exact⟨h1,h2,x,by rw [zaL];exact h3,h4⟩
 ·have:=List.all_eq_true.1 hl b hb
  rw [Option.isSome_iff_exists]at this
  rw [zaL];exact this
end Go.Ab
