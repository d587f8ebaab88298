/- The reference: words, the probability of a list, Score. -/
import Derived.Test.YthbimeikbkjnkaaGreatDoorT2
import Derived.KernelRfl
set_option linter.all false
set_option maxHeartbeats 16000000
set_option maxRecDepth 100000
namespace Go.Proofs
open Tryz Go.Ab Go.Cnt Go.Pl Go.Tg
theorem zw3(l:List Str)(hl:l.length≤1000000)(hs:∀ s∈l,s.length≤1000000000000000):PCall prog 24 [.fs (strs l) l.length] (.ret (.bool (zb1 l))):=by
 refine PCall.wD (rs:=[.tmp 2]) [0,2,3,7,23] [] mixed (zh) (zg) call24 func24 rfl ntmps24 rfl ?_;simp only [go_sem];refine AXs.loop mixed (zh) (zg) (fun i:Nat=>[(0,.fs (strs l) l.length),(3,.int .i64 i)]) (fun _=>⟨[],0⟩) (fun i=>i≤l.length∧∀ j,j<i→nameB (l.getD j [])=true) (fun i=>l.length - i) 0 (by kernel_rfl) ⟨Yk _,fun j hj=>by omega⟩ (Sub.of0 [] rfl rfl ?_ ?_) ?_
 ·simp only [go_sem]
 ·simp only [go_sem]
 rintro i ⟨h1,h2⟩;simp only [go_sem];refine AXc.introP (fun h3=>?_) (fun h3=>?_)
 ·have hi:i<l.length:=by omega
  have hsl:=hs _ (zbr hi);simp (disch:=first|exact Zq|fail) only [go_sem];try (repeat refine sdC ?_)
  have hb:(decide (((l.getD i []).length:Int)<1)||decide (40<((l.getD i []).length:Int)))= !nameB (l.getD i []):=by
   unfold nameB;cases l.getD i []with
   |nil=>rfl
   |cons a t=>
    have e1:decide (((a::t).length:Int)<1)=false:=Yy (by simp only [Ym];omega);rw [e1];by_cases hx:(a::t).length≤40
    ·rw [Yy (by omega),YB hx];rfl
    ·rw [YB (by omega),Yy hx];rfl
  rw [hb];cases hn:nameB (l.getD i [])with
  |false=>
   simp (disch:=first|exact Zq|fail) only [go_sem];unfold zb1;rw [zgC hi hn];rfl
  |true=>
   simp (disch:=first|exact Zq|fail) only [go_sem];refine zi (i+1) ⟨by omega,fun j hj=>?_⟩ (by omega) (Sub.of0 [] rfl rfl ?_ ?_)
   ·by_cases hji:j<i
    ·exact h2 j hji
    ·obtain rfl:j=i:=by omega
     exact hn
   ·simp only [go_sem];simp
   ·simp only [go_sem]
 ·obtain rfl:i=l.length:=by omega
  simp only [go_sem];refine AXa.go mixed (zh) (zg) (by kernel_rfl) ?_;simp only [go_sem];unfold zb1;rw [zgB h2,Yar];exact Ya3.2 (by omega)
noncomputable def zAt:List V→Option PR:=zu (fun l:List Str=>[.fs (strs l) l.length]) (fun l=>l.length≤1000000∧∀ s∈l,s.length≤1000000000000000) fun l=>.ret (.bool (zb1 l))
theorem zvA(l:List Str)(hl:l.length≤1000000)(hs:∀ s∈l,s.length≤1000000000000000):zAt [.fs (strs l) l.length]=some (.ret (.bool (zb1 l))):=
 zo (pat:=fun l:List Str=>[.fs (strs l) l.length]) (fun x y h=>by simp at h;exact zam h.1) l ⟨hl,hs⟩
theorem zvz:∀ args r,zAt args=some r→PCall prog 24 args r:=zn fun l h=>zw3 l h.1 h.2
theorem zw5(a b:Str)(la:a.length≤1000000000)(lb:b.length≤1000000000):PCall prog 51 [.str a,.str b] (.ret (.tup [.str (pmul a b).1,.int .i64 (pmul a b).2])):=by
 have r1:=zsb a b la lb;refine PCall.wD (rs:=[.tmp 4,.tmp 5]) [0,1,4,5] [] mixed (zf znW zh) (zg) call51 func51 rfl ntmps51 rfl ?_;simp (disch:=first|exact Zq|fail) only [go_sem,r1]
noncomputable def zAj:List V→Option PR:=zu (fun p:Str×Str=>[.str p.1,.str p.2]) (fun p=>p.1.length≤1000000000∧p.2.length≤1000000000) fun p=>.ret (.tup [.str (pmul p.1 p.2).1,.int .i64 (pmul p.1 p.2).2])
@[go_sem] theorem cTTimes_eq(a b:Str)(la:a.length≤1000000000)(lb:b.length≤1000000000):zAj [.str a,.str b]=some (.ret (.tup [.str (pmul a b).1,.int .i64 (pmul a b).2])):=
 zo (pat:=fun p:Str×Str=>[.str p.1,.str p.2]) (fun x y h=>by simp at h;exact YT h.1 h.2) (a,b) ⟨la,lb⟩
theorem zvq:∀ args r,zAj args=some r→PCall prog 51 args r:=zn fun p h=>zw5 p.1 p.2 h.1 h.2
theorem zxF(m:Mdl)(cs js:List Nat)(k:Nat)(h:(prR m cs js k).2≠0):∀ d,(prR m cs js (k+d)).2=(prR m cs js k).2
 |0=>rfl
 |d+1=>by have ih:=zxF m cs js k h d;rw [show k+(d+1)=(k+d)+1 from rfl,prR,Yf (by rw [ih];exact h),ih]
theorem prob_err(m:Mdl)(cs js:List Nat)(k:Nat)(hk:k≤cs.length)(h:(prR m cs js k).2≠0):prob m cs js=([],(prR m cs js k).2):=by have:=zxF m cs js k h (cs.length - k);rw [show k+(cs.length - k)=cs.length by omega]at this;unfold prob;rw [Yf (by rw [this];exact h),this]
theorem ixI_f {l:List Str}{s:Str}(h:idxS l s<l.length):ixI l s=idxS l s:=Yf h
theorem ixI_n {l:List Str}{s:Str}(h:¬idxS l s<l.length):ixI l s= -1:=Yd h
theorem prR_len(m:Mdl)(cs js:List Nat):∀ k,(prR m cs js k).1.length≤1000
 |0=>by simp [prR]
 |k+1=>by
  rw [prR];split
  ·simp
  ·split
   ·simp
   ·exact zgY _ _
theorem prob_ok(m:Mdl)(ws:List Str)(js:List Nat)(hf:Fit m)(hv:vmB m=true)(hw:ws.length≤1000000)(hjl:js.length=ws.length)(hj:∀ i,i<js.length→js.getD i 0<m.tags.length)(hl:∀ i j,(nx m i j).length≤1000000000∧(em m i j).length≤1000000000):
 PCall prog 27 [mdlV m,.fs (strs ws) ws.length,.fs (nats .i64 js) js.length] (.ret (.tup [.str (prob m (zH m ws) js).1,.int .i64 (prob m (zH m ws) js).2])):=by
 have hΓ:=zf cRIx_ok (zf zvq zh)
 obtain⟨R,hR⟩:∃ R,R=prob m (zH m ws) js:=⟨_,rfl⟩
 rw [←hR]
 obtain⟨v1,v2,v3,v4,v5,v6⟩:=zqT hv
 refine PCall.walk (rs:=[.tmp 6,.tmp 7]) [0,1,2,3,6,7,8,9,10,11,12,13,14,22,33,64,72] [25] mixed (hΓ) (zg) call27 func27 rfl ntmps27 rfl (by kernel_rfl) (by simp) (by simp [push_cast,zcY]) ?_
 have pe:=prob_err m (zH m ws) js
 have pr:=prR_len m (zH m ws) js
 have pz:prR m (zH m ws) js 0=([49],0):=rfl
 have ps:∀ k,(prR m (zH m ws) js k).2=0→prR m (zH m ws) js (k+1)=if (zkG m (zH m ws) js k).2≠0 then([],(zkG m (zH m ws) js k).2)else pmul (prR m (zH m ws) js k).1 (zkG m (zH m ws) js k).1:=fun k hk=>by rw [prR,Yd (by simp [hk])]
 have pf:(prR m (zH m ws) js (zH m ws).length).2=0→prob m (zH m ws) js=pmul (prR m (zH m ws) js (zH m ws).length).1 (nx m (lastOf m.tags.length js (zH m ws).length) m.tags.length):=fun hk=>by unfold prob;rw [Yd (by simp [hk])]
 have hq:∀ k,zkG m (zH m ws) js k=pmul ((nthR m.next (lastOf m.tags.length js k)).getD (js.getD k 0) []) ((nthR m.emit (js.getD k 0)).getD ((zH m ws).getD k 0) []):=fun k=>rfl
 have hn:∀ i j,nx m i j=(nthR m.next i).getD j []:=fun i j=>rfl
 have he:∀ i j,em m i j=(nthR m.emit i).getD j []:=fun i j=>rfl
 obtain⟨hcl,hca⟩:(zH m ws).length=ws.length∧∀ i,i<ws.length→(zH m ws).getD i 0=idxS m.words (ws.getD i []):=⟨by simp [zH],fun i hi=>zim m ws i hi⟩
 generalize zH m ws=cs at*
 have htl:=hf.tl
 have hwl:=hf.wl
 have iw:=zia m.words
 obtain⟨M,hM⟩:∃ M,M=m:=⟨_,rfl⟩
 rw [←hM]at pe pr pz ps pf hq hn he hR hl
 obtain⟨T,W,N,E⟩:=m
 unfold mdlV
 dsimp only at v1 v2 v3 v4 v5 v6 hca hj htl hwl iw
 have hMt:M.tags=T:=by rw [hM]
 have hMn:M.next=N:=by rw [hM]
 have hMe:M.emit=E:=by rw [hM]
 rw [hMt]at pf hq
 rw [hMn]at hn hq
 rw [hMe]at he hq
 clear hM
 generalize prR M cs js=S at pe pr pz ps pf
 simp (disch:=first|exact Zq|fail) only [go_sem]
 refine AXs.loop mixed (hΓ) (zg) (fun i:Nat=>[(1,.fs (strs ws) ws.length),(2,.fs (nats .i64 js) js.length),(3,.fp [.fs (strs T) T.length,.fs (strs W) W.length,.fs (zI N) N.length,.fs (zI E) E.length]),(8,.int .i64 T.length),(9,.str (S i).1),(10,.int .i64 (lastOf T.length js i)),(11,.int .i64 i)]) (fun _=>⟨[],0⟩) (fun i=>i≤ws.length∧(S i).2=0) (fun i=>ws.length - i) 0 (by kernel_rfl) ⟨Yk _,by rw [pz]⟩ (Sub.of0 [] rfl rfl ?_ ?_) ?_
 ·simp only [go_sem,pz,lastOf]
 ·simp only [go_sem]
 rintro i ⟨h1,h2⟩
 simp (disch:=first|exact Zq|fail) only [go_sem]
 refine AXc.introP (fun h3=>?_) (fun h3=>?_)
 ·have hi:i<ws.length:=by omega
  have c1:=hca i hi
  have iw1:=iw (ws.getD i [])
  have lo:lastOf T.length js i≤T.length:=zm4 fun j h=>hj j (by omega)
  have ls:=zpv T.length js i
  have hk:=hj i (by omega)
  have n1:=zcV N (lastOf T.length js i) (by omega)
  have n2:=v2 (lastOf T.length js i) lo
  have n3:=zcV E (js.getD i 0) (by omega)
  have n4:=v4 (js.getD i 0) hk
  have hp:=ps i h2
  have hqi:=hq i
  have l1:=(hl (lastOf T.length js i) (js.getD i 0)).1
  have l2:=(hl (js.getD i 0) (cs.getD i 0)).2
  rw [hn]at l1
  rw [he]at l2
  have l3:=pr i
  have lq:=zgY ((nthR N (lastOf T.length js i)).getD (js.getD i 0) []) ((nthR E (js.getD i 0)).getD (cs.getD i 0) [])
  have pei:=pe (i+1) (by omega)
  simp (disch:=first|exact Zq|fail) only [go_sem]
  (repeat refine sdC ?_)
  by_cases hx:idxS W (ws.getD i [])<W.length
  ·rw [ixI_f hx, ←c1]
   have cb:cs.getD i 0≤W.length:=by omega
   skip
   generalize hA:(nthR N (lastOf T.length js i)).getD (js.getD i 0) []=A at l1 hqi lq
   generalize hB:(nthR E (js.getD i 0)).getD (cs.getD i 0) []=B at l2 hqi lq
   rw [hqi]at hp
   try refine AXc.introP (fun h0=>by omega) (fun h0=>?_)
   simp (disch:=first|exact Zq|fail) only [go_sem,n1,n3,hA,hB]
   (repeat refine sdC ?_)
   generalize pmul A B=q at hp lq ⊢
   obtain⟨q1,q2⟩:=q
   dsimp only at hp lq ⊢
   refine AXc.introP (fun h5=>?_) (fun h5=>?_)
   ·rw [Yd (fun k=>k h5)]at hp
    simp (disch:=first|exact Zq|fail) only [go_sem]
    generalize pmul (S i).1 q1=z at hp ⊢
    refine AXc.introN (fun h6=>?_) (fun h6=>?_)
    ·rw [hR,pei (by rw [hp];exact h6),hp]
     simp (disch:=first|exact Zq|fail) only [go_sem]
    ·simp (disch:=first|exact Zq|fail) only [go_sem]
     try (repeat refine sdC ?_)
     refine zi (i+1) ⟨by omega,by rw [hp];exact h6⟩ (by omega) ?_
     rw [hp,ls]
     refine Sub.of0 [] rfl rfl ?_ ?_
     ·simp only [go_sem]
      simp
     ·simp only [go_sem]
   ·rw [Yf h5]at hp
    simp (disch:=first|exact Zq|fail) only [go_sem]
    refine AXc.introN (fun h6=>?_) (fun h6=>absurd h6 h5)
    rw [hR,pei (by rw [hp];exact h6),hp]
    simp (disch:=first|exact Zq|fail) only [go_sem]
  ·rw [ixI_n hx]
   have cb:W.length≤W.length:=by omega
   rw [show cs.getD i 0=W.length by omega]at hqi l2 lq
   generalize hA:(nthR N (lastOf T.length js i)).getD (js.getD i 0) []=A at l1 hqi lq
   generalize hB:(nthR E (js.getD i 0)).getD (W.length) []=B at l2 hqi lq
   rw [hqi]at hp
   try refine AXc.introP (fun h0=>by omega) (fun h0=>?_)
   simp (disch:=first|exact Zq|fail) only [go_sem,n1,n3,hA,hB]
   (repeat refine sdC ?_)
   generalize pmul A B=q at hp lq ⊢
   obtain⟨q1,q2⟩:=q
   dsimp only at hp lq ⊢
   refine AXc.introP (fun h5=>?_) (fun h5=>?_)
   ·rw [Yd (fun k=>k h5)]at hp
    simp (disch:=first|exact Zq|fail) only [go_sem]
    generalize pmul (S i).1 q1=z at hp ⊢
    refine AXc.introN (fun h6=>?_) (fun h6=>?_)
    ·rw [hR,pei (by rw [hp];exact h6),hp]
     simp (disch:=first|exact Zq|fail) only [go_sem]
    ·simp (disch:=first|exact Zq|fail) only [go_sem]
     try (repeat refine sdC ?_)
     refine zi (i+1) ⟨by omega,by rw [hp];exact h6⟩ (by omega) ?_
     rw [hp,ls]
     refine Sub.of0 [] rfl rfl ?_ ?_
     ·simp only [go_sem]
      simp
     ·simp only [go_sem]
   ·rw [Yf h5]at hp
    simp (disch:=first|exact Zq|fail) only [go_sem]
    refine AXc.introN (fun h6=>?_) (fun h6=>absurd h6 h5)
    rw [hR,pei (by rw [hp];exact h6),hp]
    simp (disch:=first|exact Zq|fail) only [go_sem]
 ·obtain rfl:i=ws.length:=by omega
  have lo:lastOf T.length js ws.length≤T.length:=zm4 fun j h=>hj j (by omega)
  have n1:=zcV N (lastOf T.length js ws.length) (by omega)
  have n2:=v2 (lastOf T.length js ws.length) lo
  rw [hcl]at pf
  have hp:=pf h2
  rw [hn]at hp
  have l1:=(hl (lastOf T.length js ws.length) T.length).1
  rw [hn]at l1
  have l3:=pr ws.length
  rw [hR,hp]
  simp (disch:=first|exact Zq|fail) only [go_sem]
  refine AXa.go mixed (hΓ) (zg) (by kernel_rfl) ?_
  simp (disch:=first|exact Zq|fail) only [go_sem,n1]
  try (repeat refine sdC ?_)
  try omega
def zCl(p:Mdl×List Str×List Nat):Prop:=Fit p.1∧vmB p.1=true∧p.2.1.length≤1000000∧p.2.2.length=p.2.1.length∧(∀ i,i<p.2.2.length→p.2.2.getD i 0<p.1.tags.length)∧∀ i j,(nx p.1 i j).length≤1000000000∧(em p.1 i j).length≤1000000000
noncomputable def cProb:List V→Option PR:=zu (fun p:Mdl×List Str×List Nat=>[mdlV p.1,.fs (strs p.2.1) p.2.1.length,.fs (nats .i64 p.2.2) p.2.2.length]) zCl fun p=>.ret (.tup [.str (prob p.1 (zH p.1 p.2.1) p.2.2).1,.int .i64 (prob p.1 (zH p.1 p.2.1) p.2.2).2])
theorem cProb_eq(m:Mdl)(ws:List Str)(js:List Nat)(h:zCl (m,ws,js)):cProb [mdlV m,.fs (strs ws) ws.length,.fs (nats .i64 js) js.length]=some (.ret (.tup [.str (prob m (zH m ws) js).1,.int .i64 (prob m (zH m ws) js).2])):=
 zo (pat:=fun p:Mdl×List Str×List Nat=>[mdlV p.1,.fs (strs p.2.1) p.2.1.length,.fs (nats .i64 p.2.2) p.2.2.length]) (fun x y h=>by simp only [Yu,V.fs.injEq,Yam]at h;exact YT (zeG h.1) (YT (zam h.2.1.1) (zax h.2.2.1))) (m,ws,js) h
theorem cProb_ok:∀ args r,cProb args=some r→PCall prog 27 args r:=zn fun p h=>prob_ok p.1 p.2.1 p.2.2 h.1 h.2.1 h.2.2.1 h.2.2.2.1 h.2.2.2.2.1 h.2.2.2.2.2
noncomputable def cTRVM:List V→Option PR:=zu (fun m:Mdl=>[mdlV m]) (fun m=>Fit m) fun m=>.ret (.bool (vmB m))
theorem cTRVM_eq(m:Mdl)(h:Fit m):cTRVM [mdlV m]=some (.ret (.bool (vmB m))):=zo (pat:=fun m:Mdl=>[mdlV m]) (fun x y h=>zeG (by simpa using h)) m h
theorem cTRVM_ok:∀ args r,cTRVM args=some r→PCall prog 23 args r:=zn fun m h=>ziL m h
end Go.Proofs

namespace Go.Proofs
open Go.Ab
theorem za2:Tryz.prog.follows .mixedOrders=true:=by kernel_rfl
end Go.Proofs

namespace Go.Ab
variable {P:Program}
abbrev FTab:=List (List V×V)
abbrev Tab:=List (FuncId×FTab)
def eqS:List UInt8→List UInt8→Bool
 |[],[]=>true
 |a::r,b::s=>Nat.beq a.toNat b.toNat&&eqS r s
 |_,_=>false
theorem eqS_eq:∀ {a b:List UInt8},eqS a b=true→a=b
 |[],b,h=>by cases b<;>simp [eqS]at h;rfl
 |x::r,b,h=>by
  cases b with
  |nil=>simp [eqS]at h
  |cons y s=>simp [eqS]at h;rw [eqS_eq h.2,YaW.1 h.1]
def eqA:V→V→Bool
 | .str a,.str b=>eqS a b
 | .int k a,.int k' b=>decide (k=k')&&decide (a=b)
 | .bool a,.bool b=>a==b
 |_,_=>false
def eqAs:List V→List V→Bool
 |[],[]=>true
 |a::r,b::s=>eqA a b&&eqAs r s
 |_,_=>false
theorem eqA_eq {a b:V}(h:eqA a b=true):a=b∧Pure a:=by
 unfold eqA at h;split at h
 ·exact⟨by rw [eqS_eq h],.str _⟩
 ·simp at h;exact⟨by rw [h.1,h.2],.int _ _⟩
 ·simp at h;exact⟨by rw [h],.bool _⟩
 ·cases h
theorem zzs:∀ {a b:List V},eqAs a b=true→a=b
 |[],b,h=>by cases b<;>simp [eqAs]at h;rfl
 |x::r,b,h=>by
  cases b with
  |nil=>simp [eqAs]at h
  |cons y s=>simp [eqAs]at h;rw [(eqA_eq h.1).1,zzs h.2]
def tabGo(L:FTab)(args:List V):Option PR:=
 match L with
 |[]=>none
 |q::r=>match eqAs q.1 args with
  |true=>some (.ret q.2)
  |false=>tabGo r args
def tabF(T:Tab)(f:FuncId)(args:List V):Option PR:=
 match T with
 |[]=>none
 |e::r=>match Nat.beq e.1 f with
  |true=>tabGo e.2 args
  |false=>tabF r f args
def FTabOK(P:Program)(f:FuncId)(L:FTab):Prop:=∀ q∈L,PCall P f q.1 (.ret q.2)
theorem FTabOK.nil {f:FuncId}:FTabOK P f []:=fun _ h=>by cases h
theorem FTabOK.append {f:FuncId}{L M:FTab}(h:FTabOK P f L)(k:FTabOK P f M):FTabOK P f (L++M):=fun q hq=>(Yaf.1 hq).elim (h q) (k q)
def TabOK(P:Program)(T:Tab):Prop:=∀ e∈T,FTabOK P e.1 e.2
theorem TabOK.nil:TabOK P []:=fun _ h=>by cases h
theorem TabOK.cons {f:FuncId}{L:FTab}{T:Tab}(h:FTabOK P f L)(k:TabOK P T):TabOK P ((f,L)::T):=fun e he=>by
 rcases YA.1 he with rfl|he
 ·exact h
 ·exact k e he
theorem zq2 {f:FuncId}{args:List V}{r:PR}:∀ {L:FTab},FTabOK P f L→tabGo L args=some r→PCall P f args r
 |[],_,h=>by cases h
 |q::L,ok,h=>by
  unfold tabGo at h;split at h
  ·rename_i e;cases h;rw [←zzs e];exact ok q (YF ..)
  ·exact zq2 (fun q hq=>ok q (Yz _ hq)) h
theorem zwB {f:FuncId}{args:List V}{r:PR}:∀ {T:Tab},TabOK P T→tabF T f args=some r→PCall P f args r
 |[],_,h=>by cases h
 |e::T,ok,h=>by
  unfold tabF at h;split at h
  ·rename_i q;have q':=Yad q;subst q';exact zq2 (ok e (YF ..)) h
  ·exact zwB (fun e he=>ok e (Yz _ he)) h
noncomputable def chkT(E:ECfg)(P:Program)(n:Nat)(f:FuncId)(L:FTab):Bool:=
 match L with
 |[]=>true
 |q::r=>
  match eAns E P n f q.1 with
  |some v=>beqV v q.2&&eqAs q.1 q.1&&chkT E P n f r
  |none=>false
theorem znw:∀ {a:List V},eqAs a a=true→∀ x∈a,Pure x
 |y::r,h,x,hx=>by
  simp [eqAs]at h;rcases YA.1 hx with rfl|hx
  ·exact(eqA_eq h.1).2
  ·exact znw h.2 x hx
theorem zaC {E:ECfg}(hm:P.follows .mixedOrders=true)(hΓ:∀ f args r,E.Γ f args=some r→PCall P f args r)(hcan:∀ f,E.can f=true→zk P f)(hsp:zhc P E)
 {n:Nat} {f:FuncId}:∀ {L:FTab},chkT E P n f L=true→FTabOK P f L
 |[],_=>FTabOK.nil
 |q::L,h=>by
  unfold chkT at h;split at h;rotate_left;·cases h
  rename_i v hv;simp only [Yc]at h;intro q' hq;rcases YA.1 hq with rfl|hq
  ·have:=zpZ hm hΓ hcan hsp (znw h.1.2) hv;rw [ziz h.1.1]at this;exact this
  ·exact zaC hm hΓ hcan hsp h.2 q' hq
def zhk(E:ECfg)(T:Tab):ECfg:={ E with Γ:=fun f args=>match tabF T f args with|some r=>some r|none=>E.Γ f args }
theorem zev {E:ECfg}{T:Tab}(hΓ:∀ f args r,E.Γ f args=some r→PCall P f args r)(hT:TabOK P T):∀ f args r,(zhk E T).Γ f args=some r→PCall P f args r:=by
 intro f args r h;have h':(match tabF T f args with|some r=>some r|none=>E.Γ f args)=some r:=h;split at h'
 ·rename_i r' hr;cases h';exact zwB hT hr
 ·exact hΓ f args r h'
end Go.Ab

namespace Go.Proofs
open Tryz Go.Ab
theorem can1:((List.range (260+1)).all fun f=>[0,1,236,247,251,258].contains f||canB prog f)=true:=by kernel_rfl
def zzg(args:List V):Option PR:=
 match args with
 |[.str s,.int .u8 n]=>bif decide (0≤n)&&decide (n<256)then some (.ret (.int .i64 (ixB s (UInt8.ofNat n.toNat))))else none
 |_=>none
theorem zzf(args:List V)(r:PR)(h:zzg args=some r):PCall prog 251 args r:=by
 unfold zzg at h;split at h
 ·rename_i s n;cases hc:(decide (0≤n)&&decide (n<256))with
  |false=>rw [hc]at h;cases h
  |true=>
   rw [hc]at h;cases h;simp only [Yc,Yh]at hc;have e:((UInt8.ofNat n.toNat).toNat:Int)=n:=by simp;omega
   have:=zrB s (UInt8.ofNat n.toNat);rw [e]at this;exact this
 ·cases h
def Γ1(f:FuncId)(args:List V):Option PR:=bif Nat.beq f 251 then zzg args else none
theorem zjd:∀ f args r,Γ1 f args=some r→PCall prog f args r:=by
 intro f args r h;unfold Γ1 at h;cases hf:Nat.beq f 251 with
 |false=>rw [hf]at h;cases h
 |true=>rw [hf]at h;rw [Yad hf];exact zzf _ _ h
def wr1(f:FuncId):Nat:=bif Nat.beq f 245||Nat.beq f 208||Nat.beq f 230||Nat.beq f 171 then 1 else bif Nat.beq f 210||Nat.beq f 212 then 2 else 0
def E1:ECfg:=⟨Γ1,canL [0,1,236,247,251,258] 260,wr1,fun _=>false,100000,spec1⟩
theorem E1_ok {n:Nat}{f:FuncId}{args:List V}{v:V}(hp:∀ x∈args,Pure x)(h:eAns E1 prog n f args=some v):PCall prog f args (.ret v):=
 zpZ za2 zjd (zau can1) (zac rfl) hp h
def TAL150:List (List V×V):=[([.str [48]],.bool true),
 ([.str [49]],.bool true),
 ([.str [52]],.bool true),
 ([.str [50]],.bool true),
 ([.str [51]],.bool true),
 ([.str [49,54]],.bool true),
 ([.str [56]],.bool true),
 ([.str [51,50]],.bool true),
 ([.str [49,50,56]],.bool true),
 ([.str [50,53,54]],.bool true)]
theorem zB8:FTabOK prog 150 TAL150:=zaC (E:=E1) (n:=60) za2 zjd (zau can1) (zac rfl) (by kernel_rfl)
def TAL154:List (List V×V):=[([.str [48],.str [45]],.tup [.str [48],.bool false]),
 ([.str [49],.str [45]],.tup [.str [49],.bool false]),
 ([.str [49,47,52],.str [45]],.tup [.str [49,47,52],.bool false]),
 ([.str [49,47,50],.str [45]],.tup [.str [49,47,50],.bool false]),
 ([.str [51,47,52],.str [45]],.tup [.str [51,47,52],.bool false]),
 ([.str [51,47,49,54],.str [45]],.tup [.str [51,47,49,54],.bool false]),
 ([.str [49,47,56],.str [45]],.tup [.str [49,47,56],.bool false]),
 ([.str [49,47,51,50],.str [45]],.tup [.str [49,47,51,50],.bool false]),
 ([.str [51,47,56],.str [45]],.tup [.str [51,47,56],.bool false]),
 ([.str [49,47,49,54],.str [45]],.tup [.str [49,47,49,54],.bool false]),
 ([.str [51,47,49,50,56],.str [45]],.tup [.str [51,47,49,50,56],.bool false]),
 ([.str [51,47,50,53,54],.str [45]],.tup [.str [51,47,50,53,54],.bool false])]
theorem zB7:FTabOK prog 154 TAL154:=zaC (E:=E1) (n:=60) za2 zjd (zau can1) (zac rfl) (by kernel_rfl)
def TAL155:List (List V×V):=[([.str [48],.str [47]],.tup [.str [48],.str [],.bool false]),
 ([.str [49],.str [47]],.tup [.str [49],.str [],.bool false]),
 ([.str [49,47,52],.str [47]],.tup [.str [49],.str [52],.bool true]),
 ([.str [49,47,50],.str [47]],.tup [.str [49],.str [50],.bool true]),
 ([.str [51,47,52],.str [47]],.tup [.str [51],.str [52],.bool true]),
 ([.str [51,47,49,54],.str [47]],.tup [.str [51],.str [49,54],.bool true]),
 ([.str [49,47,56],.str [47]],.tup [.str [49],.str [56],.bool true]),
 ([.str [49,47,51,50],.str [47]],.tup [.str [49],.str [51,50],.bool true]),
 ([.str [51,47,56],.str [47]],.tup [.str [51],.str [56],.bool true]),
 ([.str [49,47,49,54],.str [47]],.tup [.str [49],.str [49,54],.bool true]),
 ([.str [51,47,49,50,56],.str [47]],.tup [.str [51],.str [49,50,56],.bool true]),
 ([.str [51,47,50,53,54],.str [47]],.tup [.str [51],.str [50,53,54],.bool true])]
theorem zB6:FTabOK prog 155 TAL155:=zaC (E:=E1) (n:=60) za2 zjd (zau can1) (zac rfl) (by kernel_rfl)
def TAL128:List (List V×V):=[([.str [49]],.bool true),
 ([.str [48]],.bool true),
 ([.str [50]],.bool true),
 ([.str [51]],.bool true),
 ([.str [52]],.bool true),
 ([.str [49,54]],.bool true),
 ([.str [56]],.bool true)]
theorem zCd:FTabOK prog 128 TAL128:=zaC (E:=E1) (n:=60) za2 zjd (zau can1) (zac rfl) (by kernel_rfl)
def TTA0:Tab:=[(150,TAL150),(154,TAL154),(155,TAL155),(128,TAL128)]
theorem TTA0_ok:TabOK prog TTA0:=TabOK.cons zB8 (TabOK.cons zB7 (TabOK.cons zB6 (TabOK.cons zCd (TabOK.nil))))
noncomputable def ETA0:ECfg:=zhk E1 TTA0
theorem zcQ:∀ f args r,ETA0.Γ f args=some r→PCall prog f args r:=zev zjd TTA0_ok
end Go.Proofs
