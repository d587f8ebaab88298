/- A function's code cut at a place of our choice, and a region in two: there the state may be told with less, or memory frozen. -/
import Derived.Test.YtfilkkmcagndlaaGreatDoorM2
import Derived.Test.YtfilkkmcagndlaaGreatDoorPlCnt
set_option linter.all false
namespace Go.Ab
variable {C:Cfg}{P:Program}{K:Out→St→Prop}{st:List Fr}{env:Env}{h:Hp}
def takeC:Nat→Code→Option (Code×Code)
 |0,_=>none
 |n+1,.seq x y=>match n with
  |0=>some (x,y)
  |n+1=>match takeC (n+1) y with
   |some (p,q)=>if zbt x=true then none else some (.seq x p,q)
   |none=>none
 |_+1,_=>none
theorem zkr(hm:P.follows .mixedOrders=true)(hΓ:zcV P C):∀(n:Nat) (c p q:Code) (s:St) (K1 K:Out→St→Prop),takeC n c=some (p,q)→zaz C.nt c=true→AXf C P p s K1→(∀ o s,K1 o s→zgX (fun s=>AX C P q s K) K o s)→AX C P c s K
 |0,_,_,_,_,_,_,h,_,_,_=>by cases h
 |n+1,c,p,q,s,K1,K,h,hc,hx,hk1=>by
  cases c<;>try (cases h;done)
  rename_i x y;simp only [zaz,Bool.and_eq_true]at hc;cases n with
  |zero=>cases h;exact AX.seq ((zc9 hm hΓ _ s _ hc.1 hx).mono hk1)
  |succ n=>
   simp only [takeC]at h;split at h
   ·rename_i p' q' e;split at h
    ·cases h
    ·rename_i hl;cases h;unfold AXf at hx;refine AX.seq ((zc9 hm hΓ x s _ hc.1 hx).mono fun o s' hk=>?_);cases o with
     |norm=>
      have hk':if zbt x=true then AX C P p' s' K1 else AXf C P p' s' K1:=hk
      rw [if_neg hl]at hk';exact zkr hm hΓ (n+1) y p' q s' K1 K e hc.2 hk' hk1
     |exit i=>exact hk1 _ _ hk
     |ret=>exact hk1 _ _ hk
     |panic v=>exact hk1 _ _ hk
   ·cases h
theorem AXa.cut {y:Code}(n:Nat){p q:Code}(hn:takeC n y=some (p,q))(hm:P.follows .mixedOrders=true)(hΓ:zdt P C.Γ)(hΔ:zbo P C.Δ)(hok:zaz C.nt y=true)(hx:AXs C P K (.sem q::st) p env h):AXa C P K st y env h:=
 zkr hm ⟨hΓ,hΔ⟩ n y p q ⟨env,h⟩ _ _ hn hok hx fun _ _ k=>k
theorem zf3 {base:Nat}{D:Nat→Prop}{g0:G}{H0:Hp}{w0:World}{ops:Array Oper}{K:Out→St→Prop}(he:Entry C base D g0 H0 w0)(hΓ:zcV P C)(hd:∀ o∈ops.toList,∀ d,o.dst=some d→d<C.nt)
 (Q:Exit→Act→World→Prop) (js:List Nat) (rest:List Oper) (hN:∀ s g a w,Rel C base D g0 H0 w0 g s a w→K .norm s→wpOps P ops Q js a w)
 (hQ:∀ e a w,Aft C base D g0 H0 w0 (fun o s=>match o with| .norm=>False|o=>K o s) e a w→Q e a w):
 ∀(os:List Oper) (i:Nat),ops.toList.drop i=os++rest→∀(s:St) (g:G) (a:Act) (w:World),Rel C base D g0 H0 w0 g s a w→ARun C P ops os s K→wpOps P ops Q (List.range' i os.length++js) a w
 |[],i,_,s,g,a,w,r,h=>by simpa using hN s g a w r h
 |o::os,i,hi,s,g,a,w,r,h=>by
  have ho:ops[i]? =some o:=by
   have:(ops.toList.drop i)[0]? =some o:=by rw [hi];rfl
   rw [List.getElem?_drop]at this;rw [←Array.getElem?_toList];simpa using this
  have hos:ops.toList.drop (i+1)=os++rest:=by rw [←List.drop_drop,hi];rfl
  have hmem:o∈ops.toList:=List.mem_of_getElem? (by rw [Array.getElem?_toList];exact ho);have hdo:=hd o hmem;have hO:=r.env.ops ops o;have sem:=zcH hΓ ops o s.env s.h;rw [List.length_cons,List.range'_succ,List.cons_append];simp only [wpOps,ho];have dput:∀(b:Act) (vc:Value),b.defers=[]→(b.put o.dst vc).defers=[]:=fun b vc e=>by cases o.dst<;>exact e
  have go:∀(st:Bool) (v:V) (h':Hp) (f:Foot),ARun C P ops os ((s.put o.dst v).hp h') K→wok C f.W=true→StepSem P C.nt ops o s.env s.h st v h' f→o.wp P a w (wpOps P ops Q (List.range' (i+1) os.length++js)) Q:=by intro st v h' f hk hw hst;refine hst.exec g base _ w a _ Q r.post.inv hO (fun b _=>he.inD b) fun g' w' vc hv hp=>?_;exact zf3 he hΓ hd Q js rest hN hQ os (i+1) hos ((s.put o.dst v).hp h') g' _ w' ⟨(r.env.mono hp.le).put hdo hv,dput _ _ r.defers,r.step he hp hw⟩ hk
  have pan:∀(v:V) (R:List Nat),K (.panic v) s→zkc P C.nt ops o s.env s.h v R→o.wp P a w (wpOps P ops Q (List.range' (i+1) os.length++js)) Q:=by intro v R hk hst;refine hst g base _ w a _ Q r.post.inv hO (fun b _=>he.inD b) fun g' w' vc hv hp=>?_;exact hQ _ _ _ ⟨.panic v,s,g',hk,⟨vc,hv,rfl⟩,r.env.mono hp.le,r.defers,r.step he hp rfl⟩
  have skip:∀ v,VRel g v undef→ARun C P ops os ((s.put o.dst v).hp s.h) K→wpOps P ops Q (List.range' (i+1) os.length++js) (a.put o.dst undef) w:=fun v hv hk=>
   zf3 he hΓ hd Q js rest hN hQ os (i+1) hos ((s.put o.dst v).hp s.h) g _ w ⟨r.env.put hdo hv,dput _ _ r.defers,r.post⟩ hk
  unfold ARun at h;split at h
  ·rename_i hg;have hw:Region.wanted o (yielded ops a.tmps)=true:=by unfold Region.wanted;rw [hg]
   rw [if_pos hw];rcases zyj sem h with⟨st,v,h',f,hk,hwk,hst⟩|⟨v,R,hk,hst⟩
   ·exact .inl (go st v h' f hk hwk hst)
   ·exact .inl (pan v R hk hst)
  ·split at h;rotate_left;·exact h.elim
   rename_i gb hg;have hw:=zol hO.rel hg;rcases zpt sem h with⟨rfl,st,v,h',f,hk,hwk,hst⟩|⟨rfl,v,R,hk,hst⟩|⟨rfl,hk⟩|⟨v,R,hk,hst⟩
   ·rw [if_pos hw];exact .inl (go st v h' f hk hwk hst)
   ·rw [if_pos hw];exact .inl (pan v R hk hst)
   ·rw [if_neg (by rw [hw];simp)];exact skip _ (VRel.mk_tup rfl PW.nil) hk
   ·cases gb with
    |true=>rw [if_pos hw];refine .inl ?_;refine(hst rfl).exec g base _ w a _ Q r.post.inv hO (fun b _=>he.inD b) fun g' w' vc hv hp=>?_;exact zf3 he hΓ hd Q js rest hN hQ os (i+1) hos ((s.put o.dst (.opt true v)).hp s.h) g' _ w' ⟨(r.env.mono hp.le).put hdo (zoW rfl hv),dput _ _ r.defers,r.step he hp rfl⟩ hk
    |false=>rw [if_neg (by rw [hw];simp)];exact skip _ (zhX rfl) hk
def zAS(C:Cfg)(P:Program)(K:Out→St→Prop)(st:List Fr)(y:Code)(os:List Oper)(k:Nat):Out→St→Prop
 | .norm,s=>∃ s',(Sub C s s'∨(C.Wm=[]∧∃ F,Fz C.nx F s s'))∧AXr C P K (.sem y::st) ⟨os⟩ (os.drop k) s'.env s'.h
 | .exit i,s=>unst C P K st (.exit i) s
 | .ret,s=>unst C P K st .ret s
 | .panic v,s=>unst C P K st (.panic v) s
theorem AXa.split(k:Nat){id:Nat}{os:List Oper}{y:Code}(hm:P.follows .mixedOrders=true)(hΓ:zdt P C.Γ)(hΔ:zbo P C.Δ)(hok:zaz C.nt (.seq (.region id ⟨os⟩ false) y)=true)(hx:AXr C P (zAS C P K st y os k) [] ⟨os⟩ (os.take k) env h):
 AXa C P K st (.seq (.region id ⟨os⟩ false) y) env h:=by
 simp only [zaz,Bool.and_eq_true]at hok
 refine AX.seq fun base D g0 H0 w0 g a w he r=>wp_region ?_
 have hy:∀ o s,unst C P K (.sem y::st) o s→zgX (fun s=>AX C P y s (unst C P K st)) (unst C P K st) o s:=fun o s hk=>by
  cases o with
  |norm=>exact hk
  |exit i=>exact hk
  |ret=>exact hk
  |panic v=>exact hk
 have hq:∀ e a w,Aft C base D g0 H0 w0 (zb3 C.keep (unst C P K (.sem y::st))) e a w→Aft C base D g0 H0 w0 (zgX (fun s=>AX C P y s (unst C P K st)) (unst C P K st)) e a w:=fun e a w ⟨o,s,g,h1,h2,h3⟩=>by
  cases o with
  |norm=>exact⟨.norm,s.trim C.keep,g,hy .norm _ h1,h2,h3.env.trim C.keep,h3.defers,h3.post⟩
  |exit i=>exact⟨_,s,g,hy (.exit i) _ h1,h2,h3⟩
  |ret=>exact⟨_,s,g,hy .ret _ h1,h2,h3⟩
  |panic v=>exact⟨_,s,g,hy (.panic v) _ h1,h2,h3⟩
 have hd:=zbz hok.1.1
 have hlen:(⟨os⟩:Array Oper).size=os.length:=rfl
 rw [List.range_eq_range',hlen]
 by_cases hk:k≤os.length
 ·have hr:List.range' 0 os.length=List.range' 0 (os.take k).length++List.range' k (os.drop k).length:=by
   rw [List.length_take,List.length_drop,Nat.min_eq_left hk]
   have:=@List.range'_append_1 0 k (os.length - k)
   rw [Nat.zero_add]at this
   rw [this];congr 1;omega
  rw [hr]
  refine zf3 (K:=zb3 C.keep (zAS C P K st y os k)) he ⟨hΓ,hΔ⟩ hd _ _ (os.drop k) (fun s g a w r hk2=>?_) (fun e a w ⟨o,s,g,h1,h2,h3⟩=>?_) (os.take k) 0 (by simp) ⟨env,h⟩ g a w r hx
  ·obtain⟨s',hs,hx'⟩:=hk2
   have r1:Rel C base D g0 H0 w0 g (s.trim C.keep) a w:=⟨r.env.trim C.keep,r.defers,r.post⟩
   have hR:∃ g',Rel C base D g0 H0 w0 g' s' a w:=by
    rcases hs with hs|⟨hW,F,hs⟩
    ·exact r1.sub he hs
    ·exact r1.freeze he hW hs
   obtain⟨g',r'⟩:=hR
   exact zfk he ⟨hΓ,hΔ⟩ hd _ hq (os.drop k) k rfl s' g' a w r' hx'
  ·cases o with
   |norm=>exact h1.elim
   |exit i=>exact⟨.exit i,s,g,h1,h2,h3⟩
   |ret=>exact⟨.ret,s,g,h1,h2,h3⟩
   |panic v=>exact⟨.panic v,s,g,h1,h2,h3⟩
 ·have ht:os.take k=os:=List.take_of_length_le (by omega)
  have hdk:os.drop k=[]:=List.drop_eq_nil_of_le (by omega)
  rw [ht]at hx
  have hr:List.range' 0 os.length=List.range' 0 os.length++[]:=by simp
  rw [hr]
  refine zf3 (K:=zb3 C.keep (zAS C P K st y os k)) he ⟨hΓ,hΔ⟩ hd _ _ [] (fun s g a w r hk2=>?_) (fun e a w ⟨o,s,g,h1,h2,h3⟩=>?_) os 0 (by simp) ⟨env,h⟩ g a w r hx
  ·obtain⟨s',hs,hx'⟩:=hk2
   have r1:Rel C base D g0 H0 w0 g (s.trim C.keep) a w:=⟨r.env.trim C.keep,r.defers,r.post⟩
   have hR:∃ g',Rel C base D g0 H0 w0 g' s' a w:=by
    rcases hs with hs|⟨hW,F,hs⟩
    ·exact r1.sub he hs
    ·exact r1.freeze he hW hs
   obtain⟨g',r'⟩:=hR
   rw [hdk]at hx'
   exact zfk (ops:=⟨os⟩) he ⟨hΓ,hΔ⟩ hd _ hq [] os.length (by simp) s' g' a w r' hx'
  ·cases o with
   |norm=>exact h1.elim
   |exit i=>exact⟨.exit i,s,g,h1,h2,h3⟩
   |ret=>exact⟨.ret,s,g,h1,h2,h3⟩
   |panic v=>exact⟨.panic v,s,g,h1,h2,h3⟩
theorem AXr.mono {K K':Out→St→Prop}{ops:Array Oper}:∀ {os:List Oper} {env:Env} {h:Hp},(∀ o s,K o s→K' o s)→AXr C P K [] ops os env h→AXr C P K' [] ops os env h:=by
 have key:∀(os:List Oper) (s:St) (K K':Out→St→Prop),(∀ o s,K o s→K' o s)→ARun C P ops os s K→ARun C P ops os s K':=by
  intro os;induction os with
  |nil=>intro s K K' hk h;exact hk _ _ h
  |cons o os ih=>
   intro s K K' hk h;unfold ARun at h ⊢;split at h
   ·unfold fol at h ⊢;split at h
    ·exact⟨h.1,h.2.1,ih _ _ _ hk h.2.2⟩
    ·exact⟨h.1,hk _ _ h.2⟩
    ·exact h
   ·split at h
    ·unfold folG at h ⊢;split at h
     ·exact⟨h.1,ih _ _ _ hk h.2⟩
     ·split at h
      ·rename_i hb;rw [if_pos hb];exact⟨h.1,h.2.1,ih _ _ _ hk h.2.2⟩
      ·rename_i hb;rw [if_neg hb];exact ih _ _ _ hk h
     ·split at h
      ·rename_i hb;rw [if_pos hb];exact⟨h.1,hk _ _ h.2⟩
      ·rename_i hb;rw [if_neg hb];exact ih _ _ _ hk h
     ·exact⟨h.1,ih _ _ _ hk h.2⟩
    ·exact h
 intro os env h hk hx;refine key os ⟨env,h⟩ _ _ (fun o s k=>?_) hx;cases o with
 |norm=>exact hk _ _ k
 |exit i=>exact hk _ _ k
 |ret=>exact hk _ _ k
 |panic v=>exact hk _ _ k
def skV:SR→V
 | .ok true _ v _ _=>.opt false v
 |_=>zar
theorem axg1_any {ops:Array Oper}{os:List Oper}(d:Tmp)(r:SR):AXg1 C P K st ops os (some d) (some false) r env h=AXr C P K st ops os ((d,skV r)::env) h:=by
 apply propext;cases r with
 |ok st' pre v h' f=>
  cases st' with
  |true=>exact⟨fun k=>k.2,fun k=>⟨fun e=>(by cases e),k⟩⟩
  |false=>exact Iff.rfl
 |pan pre v R=>exact Iff.rfl
 |bad=>exact⟨fun k=>k.2,fun k=>⟨rfl,k⟩⟩
theorem zwG(a:V)(y:Bool)(H:Hp):zda (.opt true (.bool false)) a (.bool y) H=.ok true True (.bool y) H ⟨[],[],0,0⟩:=by unfold zda;cases ha:a.val<;>simp [V.val,V.cond]
attribute [go_sem] List.take_succ_cons List.drop_succ_cons
end Go.Ab

namespace Go.Cnt
def insS:List Str→Str→List Str
 |[],s=>[s]
 |x::l,s=>if Op.bytesLess x s=true then x::insS l s else if x=s then x::l else s::x::l
def addS(l:List Str)(s:Str):List Str:=if s=[]then l else insS l s
def IncS(l:List Str):Prop:=l.Pairwise fun a b=>Op.bytesLess a b=true
def nmS(L:List Str):List Str:=L.foldl addS []
theorem mem_insS:∀ {l:List Str} {s y:Str},y∈insS l s↔y=s∨y∈l
 |[],s,y=>by simp [insS]
 |x::l,s,y=>by
  rw [insS];split
  ·rw [List.mem_cons,mem_insS (l:=l),List.mem_cons];constructor
   ·rintro(h|h|h)
    ·exact .inr (.inl h)
    ·exact .inl h
    ·exact .inr (.inr h)
   ·rintro(h|h|h)
    ·exact .inr (.inl h)
    ·exact .inl h
    ·exact .inr (.inr h)
  ·split
   ·rename_i h;subst h;constructor
    ·exact .inr
    ·rintro(rfl|h)
     ·exact List.mem_cons_self ..
     ·exact h
   ·rw [List.mem_cons]
theorem zre:∀ {l:List Str} (_:IncS l) (s:Str),IncS (insS l s)
 |[],_,s=>by simp [insS,IncS]
 |x::l,h,s=>by
  have h':=List.pairwise_cons.1 h;rw [insS];split
  ·rename_i hx;refine List.pairwise_cons.2 ⟨fun y hy=>?_,zre h'.2 s⟩;rcases mem_insS.1 hy with rfl|hy
   ·exact hx
   ·exact h'.1 y hy
  ·rename_i hx;split
   ·exact h
   ·rename_i hne;have hs:Op.bytesLess s x=true:=by
     rcases zj8 x s with k|k|k
     ·exact absurd k hx
     ·exact absurd k hne
     ·exact k
    refine List.pairwise_cons.2 ⟨fun y hy=>?_,h⟩;rcases List.mem_cons.1 hy with rfl|hy
    ·exact hs
    ·exact zc4 hs (h'.1 y hy)
theorem mem_addS {l:List Str}{s y:Str}:y∈addS l s↔(y=s∧s≠[])∨y∈l:=by
 unfold addS;split
 ·rename_i h;simp [h]
 ·rename_i h;rw [mem_insS];simp [h]
theorem addS_inc {l:List Str}(h:IncS l)(s:Str):IncS (addS l s):=by
 unfold addS;split
 ·exact h
 ·exact zre h s
theorem zik:∀(L l:List Str),IncS l→IncS (L.foldl addS l)∧∀ y,y∈L.foldl addS l↔(y∈L∧y≠[])∨y∈l
 |[],l,h=>⟨h,fun y=>by simp⟩
 |s::L,l,h=>by
  obtain⟨h1,h2⟩:=zik L (addS l s) (addS_inc h s);refine⟨h1,fun y=>?_⟩;rw [List.foldl_cons,h2 y,mem_addS,List.mem_cons];constructor
  ·rintro(⟨a,b⟩|⟨rfl,b⟩|a)
   ·exact .inl ⟨.inr a,b⟩
   ·exact .inl ⟨.inl rfl,b⟩
   ·exact .inr a
  ·rintro(⟨rfl|a,b⟩|a)
   ·exact .inr (.inl ⟨rfl,b⟩)
   ·exact .inl ⟨a,b⟩
   ·exact .inr (.inr a)
theorem zh2(L:List Str):IncS (nmS L):=(zik L [] List.Pairwise.nil).1
theorem mem_nmS {L:List Str}{y:Str}:y∈nmS L↔y∈L∧y≠[]:=by have:=(zik L [] List.Pairwise.nil).2 y;simpa [nmS] using this
theorem zrO {a b:Str}(h:Op.bytesLess a b=true):Op.bytesLess b a=false:=by
 cases e:Op.bytesLess b a with
 |false=>rfl
 |true=>have:=zc4 h e;rw [zbF]at this;cases this
theorem IncS.ext:∀ {l r:List Str},IncS l→IncS r→(∀ y,y∈l↔y∈r)→l=r
 |[],[],_,_,_=>rfl
 |[],b::r,_,_,h=>absurd ((h b).2 (List.mem_cons_self ..)) (by simp)
 |a::l,[],_,_,h=>absurd ((h a).1 (List.mem_cons_self ..)) (by simp)
 |a::l,b::r,hl,hr,h=>by
  have hl':=List.pairwise_cons.1 hl;have hr':=List.pairwise_cons.1 hr;have hab:a=b:=by
   rcases List.mem_cons.1 ((h a).1 (List.mem_cons_self ..))with k|k
   ·exact k
   ·rcases List.mem_cons.1 ((h b).2 (List.mem_cons_self ..))with m|m
    ·exact m.symm
    ·have:=zrO (hr'.1 a k);rw [hl'.1 b m]at this;cases this
  subst hab;have:l=r:=IncS.ext hl'.2 hr'.2 fun y=>by
   have hy:=h y;rw [List.mem_cons,List.mem_cons]at hy;constructor
   ·intro k;rcases hy.1 (.inr k)with rfl|m
    ·have:=hl'.1 y k;rw [zbF]at this;cases this
    ·exact m
   ·intro k;rcases hy.2 (.inr k)with rfl|m
    ·have:=hr'.1 y k;rw [zbF]at this;cases this
    ·exact m
  rw [this]
theorem insS_len(l:List Str)(s:Str):(insS l s).length≤l.length+1:=by
 induction l with
 |nil=>simp [insS]
 |cons x l ih=>rw [insS];split;·simp;omega
               split<;>simp
theorem addS_len(l:List Str)(s:Str):(addS l s).length≤l.length+1:=by
 unfold addS;split;·omega
 exact insS_len l s
theorem zfO:∀(L l:List Str),(L.foldl addS l).length≤l.length+L.length
 |[],l=>by simp
 |s::L,l=>by have:=zfO L (addS l s);have:=addS_len l s;rw [List.foldl_cons,List.length_cons];omega
theorem zlf(L:List Str):(nmS L).length≤L.length:=by have:=zfO L [];unfold nmS;simpa using this
end Go.Cnt

namespace Go.Proofs
open Go.Ab Go.Cnt
theorem cmpS_neg(a b:Str):cmpS a b<0↔Op.bytesLess a b=true:=by
 unfold cmpS;split
 ·rename_i h;simp [h]
 ·rename_i h;split<;>simp [h]
theorem zij {l:List Str}{i:Nat}(h:i<l.length):l.getD i []∈l:=by rw [List.getD_eq_getElem?_getD,List.getElem?_eq_getElem h];exact List.getElem_mem h
theorem set_strs(l:List Str)(n:Nat)(x:Str):(strs l).set n (.str x)=strs (l.set n x):=by simp [strs,List.map_set]
theorem zeu:∀(l:List Str) (i:Nat),i<l.length→l.drop i=l.getD i []::l.drop (i+1)
 |[],_,h=>by simp at h
 |x::l,0,_=>rfl
 |x::l,i+1,h=>by have:=zeu l i (by simpa using h);simpa using this
section
variable {C:Cfg}{P:Program}{K:Out→St→Prop}{st:List Fr}{ops:Array Oper}{os:List Oper}{env:Env}{h:Hp}
theorem zAk(i:Nat)(d:Tmp)(acc:List (Nat×Foot)):AXg2 C P K st ops os i (some d) (some false) .bad acc env h=AXd C P K st ops os (i+1) acc ((d,zar)::env) h:=by show (false=false∧_)=_;simp only [true_and];rfl
theorem zpH(nd:Prop):callM none nd h=.bad:=rfl
theorem zsN:zeh .any=[]:=rfl
end
attribute [go_sem] zAk zpH zsN
end Go.Proofs

namespace Go.Pl
def za0(c:UInt8):Bool:=decide (48≤c.toNat)&&decide (c.toNat≤57)
def valD(a:List UInt8):Nat:=a.foldl (fun n c=>10*n+(c.toNat - 48)) 0
def zH(a:List UInt8):Bool:= !decide (a=[])&&decide (a.length≤1000)&&(decide (a.length≤1)|| !decide ((a.getD 0 0).toNat=48))&&a.all za0
theorem all_getD {p:UInt8→Bool}{a:List UInt8}:a.all p=true↔∀ i,i<a.length→p (a.getD i 0)=true:=by
 simp only [List.all_eq_true];constructor
 ·intro h i hi;rw [List.getD_eq_getElem?_getD,List.getElem?_eq_getElem hi];exact h _ (List.getElem_mem _)
 ·intro h x hx;obtain⟨i,hi,rfl⟩:=List.mem_iff_getElem.1 hx;have:=h i hi;rwa [List.getD_eq_getElem?_getD,List.getElem?_eq_getElem hi]at this
def valL:List Nat→Nat
 |[]=>0
 |d::l=>d+1000000000*valL l
def okL(l:List Nat):Prop:=∀ d∈l,d<1000000000
def zaB:List Nat→List Nat
 |[]=>[]
 |d::l=>if d=0∧zaB l=[]then []else d::zaB l
def zcj:Nat→Nat→List Nat
 |0,_=>[]
 |f+1,n=>if n=0 then []else n % 1000000000::zcj f (n / 1000000000)
def limbs(n:Nat):List Nat:=zcj n n
theorem zep:∀(f g n:Nat),n≤f→n≤g→zcj f n=zcj g n
 |0,g,n,h,_=>by
  have:n=0:=by omega
  subst this;cases g<;>simp [zcj]
 |f+1,0,n,_,h=>by
  have:n=0:=by omega
  subst this;simp [zcj]
 |f+1,g+1,n,h,h'=>by
  simp only [zcj];split
  ·rfl
  ·rw [zep f g (n / 1000000000) (by omega) (by omega)]
theorem zaR:limbs 0=[]:=rfl
theorem za3 {n:Nat}(h:n≠0):limbs n=n % 1000000000::limbs (n / 1000000000):=by unfold limbs;obtain⟨m,rfl⟩:∃ m,n=m+1:=⟨n - 1,by omega⟩;rw [zcj,if_neg h,zep m ((m+1) / 1000000000) ((m+1) / 1000000000) (by omega) (Nat.le_refl _)]
theorem limbs_nil {n:Nat}:limbs n=[]↔n=0:=by
 constructor
 ·intro h;by_cases h0:n=0
  ·exact h0
  ·rw [za3 h0]at h;cases h
 ·rintro rfl;rfl
theorem zF(n:Nat):valL (limbs n)=n:=by
 induction n using Nat.strongRecOn with
 |_ n ih=>
  by_cases h:n=0
  ·subst h;rfl
  ·rw [za3 h,valL,ih (n / 1000000000) (by omega)];omega
theorem zI(n:Nat):okL (limbs n):=by
 induction n using Nat.strongRecOn with
 |_ n ih=>
  by_cases h:n=0
  ·subst h;intro d hd;cases hd
  ·rw [za3 h];intro d hd;rcases List.mem_cons.1 hd with rfl|hd
   ·omega
   ·exact ih (n / 1000000000) (by omega) d hd
theorem okL_cons {d:Nat}{l:List Nat}:okL (d::l)↔d<1000000000∧okL l:=by simp [okL]
theorem okL_append {l r:List Nat}:okL (l++r)↔okL l∧okL r:=by simp only [okL,List.mem_append];exact⟨fun h=>⟨fun d hd=>h d (.inl hd),fun d hd=>h d (.inr hd)⟩,fun h d hd=>hd.elim (h.1 d) (h.2 d)⟩
theorem zbb {l:List Nat}(h:okL l):zaB l=limbs (valL l):=by
 induction l with
 |nil=>rfl
 |cons d l ih=>
  rw [okL_cons]at h;rw [zaB,ih h.2,valL];have hd:=h.1;by_cases h0:d+1000000000*valL l=0
  ·rw [h0,zaR,if_pos ⟨by omega,limbs_nil.2 (by omega)⟩]
  ·rw [za3 h0,if_neg (by rw [limbs_nil];omega)];congr 1
   ·omega
   ·congr 1;omega
theorem zaK(l r:List Nat):valL (l++r)=valL l+1000000000 ^ l.length*valL r:=by
 induction l with
 |nil=>simp [valL]
 |cons d l ih=>simp only [List.cons_append,valL,ih,List.length_cons,Nat.pow_succ,Nat.mul_add, ←Nat.mul_assoc];rw [Nat.mul_comm (1000000000 ^ l.length) 1000000000];omega
theorem valL_lt {l:List Nat}(h:okL l):valL l<1000000000 ^ l.length:=by
 induction l with
 |nil=>simp [valL]
 |cons d l ih=>
  rw [okL_cons]at h;have:=ih h.2;simp only [valL,List.length_cons,Nat.pow_succ];have h1:=h.1;have:1000000000*valL l+1000000000≤1000000000*1000000000 ^ l.length:=by rw [←Nat.mul_succ];exact Nat.mul_le_mul_left _ this
  omega
theorem zdb {l:List Nat}{n:Nat}(hn:n≤l.length)(h:∀ j,n≤j→l.getD j 0=0)(h2:n=0∨l.getD (n - 1) 0≠0):zaB l=l.take n:=by
 induction l generalizing n with
 |nil=>simp [zaB]
 |cons d l ih=>
  cases n with
  |zero=>
   have hd:=h 0 (Nat.le_refl _);have hl:zaB l=[]:=by rw [ih (n:=0) (Nat.zero_le _) (fun j _=>h (j+1) (Nat.zero_le _)) (.inl rfl)];simp
   simp at hd;simp [zaB,hd,hl]
  |succ n=>
   have hl:=ih (n:=n) (by simpa using hn) (fun j hj=>by have:=h (j+1) (by omega);simpa using this) (by
    cases n with
    |zero=>exact .inl rfl
    |succ n=>right;rcases h2 with h2|h2;omega;simpa using h2)
   rw [zaB,hl,List.take_succ_cons,if_neg];rintro⟨hd,hnil⟩;rcases h2 with h2|h2
   ·omega
   ·cases n with
    |zero=>simp at h2;exact h2 hd
    |succ n=>
     have:l.length=0:=by have:=congrArg List.length hnil;simp at this;simp [this]
     simp at hn;omega
theorem zcA {n:Nat}(h:n≠0):(limbs n).getD ((limbs n).length - 1) 0≠0:=by
 induction n using Nat.strongRecOn with
 |_ n ih=>
  rw [za3 h];by_cases h1:n / 1000000000=0
  ·rw [h1,zaR];simp;omega
  ·have:=ih (n / 1000000000) (by omega) h1;have hne:limbs (n / 1000000000)≠[]:=by rw [ne_eq,limbs_nil];exact h1
   obtain⟨d,r,hdr⟩:=List.exists_cons_of_ne_nil hne;rw [hdr]at this ⊢;simpa using this
theorem zaT {n k:Nat}(h:n<1000000000 ^ k):(limbs n).length≤k:=by
 induction k generalizing n with
 |zero=>have:n=0:=by simpa using h
        subst this;simp [zaR]
 |succ k ih=>
  by_cases h0:n=0
  ·subst h0;simp [zaR]
  ·rw [za3 h0,List.length_cons];have:n / 1000000000<1000000000 ^ k:=by rw [Nat.div_lt_iff_lt_mul (by omega)];rw [Nat.pow_succ]at h;exact h
   have:=ih this;omega
theorem getD_drop {α:Type}(l:List α)(a b:Nat)(d:α):(l.drop a).getD b d=l.getD (a+b) d:=by simp [List.getD_eq_getElem?_getD]
theorem getD_take {α:Type}(l:List α)(n i:Nat)(d:α)(h:i<n):(l.take n).getD i d=l.getD i d:=by simp [List.getD_eq_getElem?_getD,h]
theorem za5 {α:Type}(l:List α)(i:Nat)(d:α)(h:l.length≤i):l.getD i d=d:=by simp [List.getD_eq_getElem?_getD,h]
theorem zcb {α:Type}(l:List α)(n:Nat)(d:α)(h:n<l.length):l.take (n+1)=l.take n++[l.getD n d]:=by rw [List.take_succ_eq_append_getElem h,List.getD_eq_getElem?_getD,List.getElem?_eq_getElem h];rfl
theorem zcW:valD []=0:=rfl
theorem foldD(a:List UInt8)(n:Nat):a.foldl (fun n c=>10*n+(c.toNat - 48)) n=10 ^ a.length*n+valD a:=by
 induction a generalizing n with
 |nil=>simp [valD]
 |cons c a ih=>
  simp only [List.foldl_cons,List.length_cons,valD];rw [ih,ih (10*0+(c.toNat - 48)),Nat.mul_add,Nat.pow_succ,Nat.mul_zero,Nat.zero_add];have:10 ^ a.length*(10*n)=10 ^ a.length*10*n:=by rw [Nat.mul_assoc]
  omega
theorem zbV(c:UInt8)(a:List UInt8):valD (c::a)=10 ^ a.length*(c.toNat - 48)+valD a:=by rw [valD,List.foldl_cons,foldD];simp
theorem zb5(a b:List UInt8):valD (a++b)=10 ^ b.length*valD a+valD b:=by rw [valD,List.foldl_append,foldD];rfl
theorem zbU(a:List UInt8)(c:UInt8):valD (a++[c])=10*valD a+(c.toNat - 48):=by rw [zb5];simp [zbV,zcW]
theorem zbG {c:UInt8}(h:za0 c=true):48≤c.toNat∧c.toNat≤57:=by simpa [za0] using h
theorem zhv {a:List UInt8}(h:a.all za0=true):valD a<10 ^ a.length:=by
 induction a with
 |nil=>simp [valD]
 |cons c a ih=>simp only [List.all_cons,Bool.and_eq_true]at h;have h1:=zbG h.1;have h2:=ih h.2;rw [zbV,List.length_cons,Nat.pow_succ];have:10 ^ a.length*(c.toNat - 48)≤10 ^ a.length*9:=Nat.mul_le_mul_left _ (by omega);omega
theorem zq1 {l:List Nat}{a:List UInt8}{p:Nat}(ho:okL l)(hv:valL l+p*valD (a.take 0)=valD a):limbs (valD a)=zaB l:=by rw [zbb ho, ←hv,List.take_zero,zcW,Nat.mul_zero,Nat.add_zero]
def decF:Nat→Nat→List UInt8
 |0,_=>[]
 |f+1,n=>if n<10 then [UInt8.ofNat (48+n)]else decF f (n / 10)++[UInt8.ofNat (48+n % 10)]
def dec(n:Nat):List UInt8:=decF (n+1) n
theorem zyI:∀(f g n:Nat),n<f→n<g→decF f n=decF g n
 |0,_,n,h,_=>by omega
 |_,0,n,_,h=>by omega
 |f+1,g+1,n,h,h'=>by
  simp only [decF];split
  ·rfl
  ·rw [zyI f g (n / 10) (by omega) (by omega)]
theorem zbD {n:Nat}(h:n<10):dec n=[UInt8.ofNat (48+n)]:=by rw [dec,decF,if_pos h]
theorem zd0 {n:Nat}(h:10≤n):dec n=dec (n / 10)++[UInt8.ofNat (48+n % 10)]:=by rw [dec,decF,if_neg (by omega),zyI n (n / 10+1) (n / 10) (by omega) (by omega)];rfl
theorem zbw {n:Nat}(h:n<10):(UInt8.ofNat (48+n)).toNat=48+n:=by simp only [UInt8.toNat_ofNat'];omega
theorem zcQ(n:Nat):(dec n).all za0=true:=by
 induction n using Nat.strongRecOn with
 |_ n ih=>
  by_cases h:n<10
  ·rw [zbD h];simp [za0,zbw h];omega
  ·rw [zd0 (by omega),List.all_append,ih (n / 10) (by omega)];have:n % 10<10:=by omega
   simp [za0,zbw this];omega
theorem zah(n:Nat):valD (dec n)=n:=by
 induction n using Nat.strongRecOn with
 |_ n ih=>
  by_cases h:n<10
  ·rw [zbD h,zbV,zbw h];simp [zcW]
  ·rw [zd0 (by omega),zbU,ih (n / 10) (by omega),zbw (by omega)];omega
theorem zjW(n:Nat):dec n≠[]:=by
 by_cases h:n<10
 ·rw [zbD h];simp
 ·rw [zd0 (by omega)];simp
theorem zdZ(n:Nat):0<(dec n).length:=List.length_pos_iff.2 (zjW n)
theorem zrv {n:Nat}(h:10≤n):((dec n).getD 0 0).toNat≠48:=by
 induction n using Nat.strongRecOn with
 |_ n ih=>
  rw [zd0 h];have e:((dec (n / 10)++[UInt8.ofNat (48+n % 10)]).getD 0 0)=(dec (n / 10)).getD 0 0:=by rw [List.getD_eq_getElem?_getD,List.getD_eq_getElem?_getD,List.getElem?_append_left (zdZ _)]
  rw [e];by_cases h1:n / 10<10
  ·rw [zbD h1];simp [zbw h1];omega
  ·exact ih (n / 10) (by omega) (by omega)
theorem dec_len_one {n:Nat}:(dec n).length≤1↔n<10:=by
 constructor
 ·intro h;by_cases h1:n<10
  ·exact h1
  ·rw [zd0 (by omega),List.length_append]at h;have:=zdZ (n / 10);rw [List.length_singleton]at h;omega
 ·intro h;rw [zbD h];simp
theorem zf8 {n:Nat}:zH (dec n)=decide ((dec n).length≤1000):=by
 simp only [zH,zcQ,Bool.and_true];have h1:decide (dec n=[])=false:=by simp [zjW]
 by_cases h:n<10
 ·have:=dec_len_one.2 h;simp [h1,this]
 ·have h2:=zrv (n:=n) (by omega);have:¬(dec n).length≤1:=by rw [dec_len_one];exact h
  simp only [List.getD_eq_getElem?_getD]at h2;simp [h1,h2]
theorem zhf {a:List UInt8}(hd:a.all za0=true)(hne:a≠[])(hz:a.length≤1∨(a.getD 0 0).toNat≠48):dec (valD a)=a:=by
 induction h:a.length generalizing a with
 |zero=>exact absurd (List.length_eq_zero_iff.1 h) hne
 |succ k ih=>
  rcases List.eq_nil_or_concat a with rfl|⟨b,c,rfl⟩
  ·exact absurd rfl hne
  ·rw [List.concat_eq_append]at*;have hdc:za0 c=true:=by rw [List.all_append,Bool.and_eq_true]at hd;simpa using hd.2
   have hdb:b.all za0=true:=by rw [List.all_append,Bool.and_eq_true]at hd;exact hd.1
   have hc:=zbG hdc;by_cases hb:b=[]
   ·subst hb;simp only [List.nil_append,zbV,List.length_nil,Nat.pow_zero,Nat.one_mul,zcW,Nat.add_zero];rw [zbD (by omega),show 48+(c.toNat - 48)=c.toNat by omega];simp
   ·have hbl:0<b.length:=List.length_pos_iff.2 hb;have hz':(b.getD 0 0).toNat≠48:=by
     rcases hz with hz|hz
     ·rw [List.length_append,List.length_singleton]at hz;omega
     ·have e:(b++[c]).getD 0 0=b.getD 0 0:=by
       rw [List.getD_eq_getElem?_getD,List.getD_eq_getElem?_getD,List.getElem?_append_left hbl]
      rwa [e]at hz
    have hb2:=ih hdb hb (.inr hz') (by simpa using h);rw [zbU];have hpos:0<valD b:=by
     cases b with
     |nil=>exact absurd rfl hb
     |cons x b=>rw [zbV];have hx:=zbG (c:=x) (by simp at hdb;exact hdb.1);simp at hz';have:0<10 ^ b.length*(x.toNat - 48):=Nat.mul_pos (Nat.pow_pos (by omega)) (by omega);omega
    rw [zd0 (by omega),show (10*valD b+(c.toNat - 48)) / 10=valD b by omega,hb2,show 48+(10*valD b+(c.toNat - 48)) % 10=c.toNat by omega];simp
theorem validN_iff {a:List UInt8}:zH a=true↔(dec (valD a)=a∧a.length≤1000)∧a.all za0=true:=by
 constructor
 ·intro h;simp only [zH,Bool.and_eq_true,Bool.or_eq_true,Bool.not_eq_true',decide_eq_false_iff_not,decide_eq_true_eq]at h;obtain⟨⟨⟨h1,h2⟩,h3⟩,h4⟩:=h;exact⟨⟨zhf h4 h1 h3,h2⟩,h4⟩
 ·rintro⟨⟨h1,h2⟩,_⟩;rw [←h1,zf8,h1];simpa using h2
theorem zX {m n:Nat}(h:dec m=dec n):m=n:=by rw [←zah m,h,zah]
theorem zax {n k:Nat}(h:n<10 ^ k)(hk:0<k):(dec n).length≤k:=by
 induction k generalizing n with
 |zero=>omega
 |succ k ih=>
  by_cases h1:n<10
  ·rw [zbD h1];simp
  ·rw [zd0 (by omega),List.length_append];have hk0:0<k:=by
    cases k with
    |zero=>simp at h;omega
    |succ k=>omega
   have:=ih (n:=n / 10) (by rw [Nat.div_lt_iff_lt_mul (by omega)];rw [Nat.pow_succ]at h;exact h) hk0;simp;omega
theorem zcB {n k:Nat}(h:(dec n).length≤k):n<10 ^ k:=by have:=zhv (zcQ n);rw [zah]at this;exact Nat.lt_of_lt_of_le this (Nat.pow_le_pow_right (by omega) h)
theorem bk_next {a:List UInt8}{l:List Nat}{i:Nat}(hi:i≤a.length)(hv:valL l+1000000000 ^ l.length*valD (a.take i)=valD a):
 valL (l++[valD ((a.take i).drop (i - 9))])+1000000000 ^ (l++[valD ((a.take i).drop (i - 9))]).length*valD (a.take (i - 9))=valD a:=by
 generalize hP:(1000000000:Nat) ^ l.length=p at*
 have e1:1000000000 ^ (l++[valD ((a.take i).drop (i - 9))]).length=p*1000000000:=by rw [List.length_append,List.length_singleton,Nat.pow_succ,hP]
 rw [e1,zaK,hP, ←hv]
 simp only [valL,Nat.mul_zero,Nat.add_zero]
 have hsplit:valD (a.take i)=1000000000*valD (a.take (i - 9))+valD ((a.take i).drop (i - 9)):=by
  by_cases h9:i<9
  ·have:i - 9=0:=by omega
   rw [this,List.take_zero,List.drop_zero,zcW,Nat.mul_zero,Nat.zero_add]
  ·have e2:a.take i=(a.take i).take (i - 9)++(a.take i).drop (i - 9):=(List.take_append_drop _ _).symm;have e3:((a.take i).drop (i - 9)).length=9:=by simp;omega
   have e4:(a.take i).take (i - 9)=a.take (i - 9):=by rw [List.take_take,Nat.min_eq_left (by omega)]
   have:=congrArg valD e2;rw [zb5,e3,e4]at this;exact this
 rw [hsplit,Nat.mul_assoc,Nat.mul_add]
 omega
end Go.Pl
