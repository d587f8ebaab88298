/- The reference: words, the probability of a list, Score. -/
import Derived.Test.YthbimeikbkjnkaaGreatDoorT3
set_option linter.all false
namespace Go.Proofs
open Go.Ab Go.Cnt Go.Pl Go.Tg
set_option maxHeartbeats 4000000 in
theorem ztD(l:List Str)(hl:l.length≤1000000)(hs:∀ s∈l,s.length≤1000000000000000):PCall Tryz.prog 24 [.fs (strs l) l.length] (.ret (.bool (zby l))):=by
 refine PCall.walk (rs:=[.tmp 2]) [0,2,3,7,23] [] mixed (zh) (zg) call24 Tryz.func24 rfl Tryz.ntmps24 rfl (by kernel_rfl) (by simp) (by simp [push_cast]) ?_;simp only [go_sem];refine AXs.loop mixed (zh) (zg) (fun i:Nat=>[(0,.fs (strs l) l.length),(3,.int .i64 i)]) (fun _=>⟨[],0⟩) (fun i=>i≤l.length∧∀ j,j<i→nameB (l.getD j [])=true) (fun i=>l.length - i) 0 (by kernel_rfl) ⟨Nat.zero_le _,fun j hj=>by omega⟩ (Sub.of0 [] rfl rfl ?_ ?_) ?_
 ·simp only [go_sem]
 ·simp only [go_sem]
 rintro i ⟨h1,h2⟩;simp only [go_sem];refine AXc.introP (fun h3=>?_) (fun h3=>?_)
 ·have hi:i<l.length:=by omega
  have hsl:=hs _ (zcx hi);simp (disch:=first|assumption|(push_cast<;>omega)|omega) only [go_sem];try (repeat refine sdC ?_)
  have hb:(decide (((l.getD i []).length:Int)<1)||decide (40<((l.getD i []).length:Int)))= !nameB (l.getD i []):=by
   unfold nameB;cases l.getD i []with
   |nil=>rfl
   |cons a t=>
    have e1:decide (((a::t).length:Int)<1)=false:=decide_eq_false (by simp only [List.length_cons];omega);rw [e1];by_cases hx:(a::t).length≤40
    ·rw [decide_eq_false (by omega),decide_eq_true hx];rfl
    ·rw [decide_eq_true (by omega),decide_eq_false hx];rfl
  rw [hb];cases hn:nameB (l.getD i [])with
  |false=>
   simp (disch:=first|assumption|(push_cast<;>omega)|omega) only [go_sem];unfold zby;rw [zfH hi hn];rfl
  |true=>
   simp (disch:=first|assumption|(push_cast<;>omega)|omega) only [go_sem];refine zo (i+1) ⟨by omega,fun j hj=>?_⟩ (by omega) (Sub.of0 [] rfl rfl ?_ ?_)
   ·by_cases hji:j<i
    ·exact h2 j hji
    ·obtain rfl:j=i:=by omega
     exact hn
   ·simp only [go_sem];simp
   ·simp only [go_sem]
 ·obtain rfl:i=l.length:=by omega
  simp only [go_sem];refine AXa.go mixed (zh) (zg) (by kernel_rfl) ?_;simp only [go_sem];unfold zby;rw [zfG h2,Bool.true_and];exact decide_eq_decide.2 (by omega)
noncomputable def zwK:List V→Option PR:=zu (fun l:List Str=>[.fs (strs l) l.length]) (fun l=>l.length≤1000000∧∀ s∈l,s.length≤1000000000000000) fun l=>.ret (.bool (zby l))
theorem zsn(l:List Str)(hl:l.length≤1000000)(hs:∀ s∈l,s.length≤1000000000000000):zwK [.fs (strs l) l.length]=some (.ret (.bool (zby l))):=
 zn (pat:=fun l:List Str=>[.fs (strs l) l.length]) (fun x y h=>by simp at h;exact zao h.1) l ⟨hl,hs⟩
theorem zsm:∀ args r,zwK args=some r→PCall Tryz.prog 24 args r:=zk fun l h=>ztD l h.1 h.2
theorem ztE(a b:Str)(la:a.length≤1000000000)(lb:b.length≤1000000000):PCall Tryz.prog 51 [.str a,.str b] (.ret (.tup [.str (pmul a b).1,.int .i64 (pmul a b).2])):=by
 have r1:=cR3Mul_p a b la lb;refine PCall.walk (rs:=[.tmp 4,.tmp 5]) [0,1,4,5] [] mixed (zf zwU zh) (zg) call51 Tryz.func51 rfl Tryz.ntmps51 rfl (by kernel_rfl) (by simp) (by simp [push_cast]) ?_;simp (disch:=first|assumption|(push_cast<;>omega)|omega) only [go_sem,r1]
noncomputable def zwC:List V→Option PR:=zu (fun p:Str×Str=>[.str p.1,.str p.2]) (fun p=>p.1.length≤1000000000∧p.2.length≤1000000000) fun p=>.ret (.tup [.str (pmul p.1 p.2).1,.int .i64 (pmul p.1 p.2).2])
@[go_sem] theorem cTTimes_eq(a b:Str)(la:a.length≤1000000000)(lb:b.length≤1000000000):zwC [.str a,.str b]=some (.ret (.tup [.str (pmul a b).1,.int .i64 (pmul a b).2])):=
 zn (pat:=fun p:Str×Str=>[.str p.1,.str p.2]) (fun x y h=>by simp at h;exact Prod.ext h.1 h.2) (a,b) ⟨la,lb⟩
theorem zsd:∀ args r,zwC args=some r→PCall Tryz.prog 51 args r:=zk fun p h=>ztE p.1 p.2 h.1 h.2
theorem pmul_err {a b:Str}(h:(pmul a b).2≠0):(pmul a b).1=[]:=by
 unfold pmul zaC at h ⊢;split
 ·unfold mkV;split
  ·rfl
  ·rename_i e1 e2 hh;exfalso;apply h;unfold mkV;rw [e1,e2];dsimp only;rw [if_neg hh];rfl
 ·rfl
theorem zt9(m:Mdl)(cs js:List Nat)(k:Nat)(h:(prR m cs js k).2≠0):∀ d,(prR m cs js (k+d)).2=(prR m cs js k).2
 |0=>rfl
 |d+1=>by have ih:=zt9 m cs js k h d;rw [show k+(d+1)=(k+d)+1 from rfl,prR,if_pos (by rw [ih];exact h),ih]
theorem prob_err(m:Mdl)(cs js:List Nat)(k:Nat)(hk:k≤cs.length)(h:(prR m cs js k).2≠0):prob m cs js=([],(prR m cs js k).2):=by have:=zt9 m cs js k h (cs.length - k);rw [show k+(cs.length - k)=cs.length by omega]at this;unfold prob;rw [if_pos (by rw [this];exact h),this]
theorem ixI_f {l:List Str}{s:Str}(h:idxS l s<l.length):ixI l s=idxS l s:=if_pos h
theorem ixI_n {l:List Str}{s:Str}(h:¬idxS l s<l.length):ixI l s= -1:=if_neg h
theorem prR_len(m:Mdl)(cs js:List Nat):∀ k,(prR m cs js k).1.length≤1000
 |0=>by simp [prR]
 |k+1=>by
  rw [prR];split
  ·simp
  ·split
   ·simp
   ·exact zjl _ _
set_option maxHeartbeats 8000000 in
set_option maxRecDepth 100000 in
theorem prob_ok(m:Mdl)(ws:List Str)(js:List Nat)(hf:Fit m)(hv:vmB m=true)(hw:ws.length≤1000000)(hjl:js.length=ws.length)(hj:∀ i,i<js.length→js.getD i 0<m.tags.length)(hl:∀ i j,(nx m i j).length≤1000000000∧(em m i j).length≤1000000000):
 PCall Tryz.prog 27 [mdlV m,.fs (strs ws) ws.length,.fs (nats .i64 js) js.length] (.ret (.tup [.str (prob m (zH m ws) js).1,.int .i64 (prob m (zH m ws) js).2])):=by
 have hΓ:=zf zwR (zf zsd zh)
 obtain⟨R,hR⟩:∃ R,R=prob m (zH m ws) js:=⟨_,rfl⟩
 rw [←hR]
 obtain⟨v1,v2,v3,v4,v5,v6⟩:=zot hv
 refine PCall.walk (rs:=[.tmp 6,.tmp 7]) [0,1,2,3,6,7,8,9,10,11,12,13,14,22,33,64,72] [25] mixed (hΓ) (zg) call27 Tryz.func27 rfl Tryz.ntmps27 rfl (by kernel_rfl) (by simp) (by simp [push_cast,zbQ]) ?_
 have pe:=prob_err m (zH m ws) js
 have pr:=prR_len m (zH m ws) js
 have pz:prR m (zH m ws) js 0=([49],0):=rfl
 have ps:∀ k,(prR m (zH m ws) js k).2=0→prR m (zH m ws) js (k+1)=if (zkT m (zH m ws) js k).2≠0 then([],(zkT m (zH m ws) js k).2)else pmul (prR m (zH m ws) js k).1 (zkT m (zH m ws) js k).1:=fun k hk=>by rw [prR,if_neg (by simp [hk])]
 have pf:(prR m (zH m ws) js (zH m ws).length).2=0→prob m (zH m ws) js=pmul (prR m (zH m ws) js (zH m ws).length).1 (nx m (lastOf m.tags.length js (zH m ws).length) m.tags.length):=fun hk=>by unfold prob;rw [if_neg (by simp [hk])]
 have hq:∀ k,zkT m (zH m ws) js k=pmul ((nthR m.next (lastOf m.tags.length js k)).getD (js.getD k 0) []) ((nthR m.emit (js.getD k 0)).getD ((zH m ws).getD k 0) []):=fun k=>rfl
 have hn:∀ i j,nx m i j=(nthR m.next i).getD j []:=fun i j=>rfl
 have he:∀ i j,em m i j=(nthR m.emit i).getD j []:=fun i j=>rfl
 obtain⟨hcl,hca⟩:(zH m ws).length=ws.length∧∀ i,i<ws.length→(zH m ws).getD i 0=idxS m.words (ws.getD i []):=⟨by simp [zH],fun i hi=>zlR m ws i hi⟩
 generalize zH m ws=cs at*
 have htl:=hf.tl
 have hwl:=hf.wl
 have iw:=zfk m.words
 obtain⟨M,hM⟩:∃ M,M=m:=⟨_,rfl⟩
 rw [←hM]at pe pr pz ps pf hq hn he hR hl
 obtain⟨T,W,N,E⟩:=m
 unfold mdlV
 dsimp only at v1 v2 v3 v4 v5 v6 hca hj htl hwl iw
 have hMt:M.tags=T:=by rw [hM]
 have hMn:M.next=N:=by rw [hM]
 have hMe:M.emit=E:=by rw [hM]
 rw [hMt]at pf hq
 rw [hMn]at hn hq
 rw [hMe]at he hq
 clear hM
 generalize prR M cs js=S at pe pr pz ps pf
 simp (disch:=first|assumption|(push_cast<;>omega)|omega) only [go_sem]
 refine AXs.loop mixed (hΓ) (zg) (fun i:Nat=>[(1,.fs (strs ws) ws.length),(2,.fs (nats .i64 js) js.length),(3,.fp [.fs (strs T) T.length,.fs (strs W) W.length,.fs (zI N) N.length,.fs (zI E) E.length]),(8,.int .i64 T.length),(9,.str (S i).1),(10,.int .i64 (lastOf T.length js i)),(11,.int .i64 i)]) (fun _=>⟨[],0⟩) (fun i=>i≤ws.length∧(S i).2=0) (fun i=>ws.length - i) 0 (by kernel_rfl) ⟨Nat.zero_le _,by rw [pz]⟩ (Sub.of0 [] rfl rfl ?_ ?_) ?_
 ·simp only [go_sem,pz,lastOf]
 ·simp only [go_sem]
 rintro i ⟨h1,h2⟩
 simp (disch:=first|assumption|(push_cast<;>omega)|omega) only [go_sem]
 refine AXc.introP (fun h3=>?_) (fun h3=>?_)
 ·have hi:i<ws.length:=by omega
  have c1:=hca i hi
  have iw1:=iw (ws.getD i [])
  have lo:lastOf T.length js i≤T.length:=zeL fun j h=>hj j (by omega)
  have ls:=zgW T.length js i
  have hk:=hj i (by omega)
  have n1:=zcs N (lastOf T.length js i) (by omega)
  have n2:=v2 (lastOf T.length js i) lo
  have n3:=zcs E (js.getD i 0) (by omega)
  have n4:=v4 (js.getD i 0) hk
  have hp:=ps i h2
  have hqi:=hq i
  have l1:=(hl (lastOf T.length js i) (js.getD i 0)).1
  have l2:=(hl (js.getD i 0) (cs.getD i 0)).2
  rw [hn]at l1
  rw [he]at l2
  have l3:=pr i
  have lq:=zjl ((nthR N (lastOf T.length js i)).getD (js.getD i 0) []) ((nthR E (js.getD i 0)).getD (cs.getD i 0) [])
  have pei:=pe (i+1) (by omega)
  simp (disch:=first|assumption|(push_cast<;>omega)|omega) only [go_sem]
  (repeat refine sdC ?_)
  by_cases hx:idxS W (ws.getD i [])<W.length
  ·rw [ixI_f hx, ←c1]
   have cb:cs.getD i 0≤W.length:=by omega
   skip
   generalize hA:(nthR N (lastOf T.length js i)).getD (js.getD i 0) []=A at l1 hqi lq
   generalize hB:(nthR E (js.getD i 0)).getD (cs.getD i 0) []=B at l2 hqi lq
   rw [hqi]at hp
   try refine AXc.introP (fun h0=>by omega) (fun h0=>?_)
   simp (disch:=first|assumption|(push_cast<;>omega)|omega) only [go_sem,n1,n3,hA,hB]
   (repeat refine sdC ?_)
   generalize pmul A B=q at hp lq ⊢
   obtain⟨q1,q2⟩:=q
   dsimp only at hp lq ⊢
   refine AXc.introP (fun h5=>?_) (fun h5=>?_)
   ·rw [if_neg (fun k=>k h5)]at hp
    simp (disch:=first|assumption|(push_cast<;>omega)|omega) only [go_sem]
    generalize pmul (S i).1 q1=z at hp ⊢
    refine AXc.introN (fun h6=>?_) (fun h6=>?_)
    ·rw [hR,pei (by rw [hp];exact h6),hp]
     simp (disch:=first|assumption|(push_cast<;>omega)|omega) only [go_sem]
    ·simp (disch:=first|assumption|(push_cast<;>omega)|omega) only [go_sem]
     try (repeat refine sdC ?_)
     refine zo (i+1) ⟨by omega,by rw [hp];exact h6⟩ (by omega) ?_
     rw [hp,ls]
     refine Sub.of0 [] rfl rfl ?_ ?_
     ·simp only [go_sem]
      simp
     ·simp only [go_sem]
   ·rw [if_pos h5]at hp
    simp (disch:=first|assumption|(push_cast<;>omega)|omega) only [go_sem]
    refine AXc.introN (fun h6=>?_) (fun h6=>absurd h6 h5)
    rw [hR,pei (by rw [hp];exact h6),hp]
    simp (disch:=first|assumption|(push_cast<;>omega)|omega) only [go_sem]
  ·rw [ixI_n hx]
   have cb:W.length≤W.length:=by omega
   rw [show cs.getD i 0=W.length by omega]at hqi l2 lq
   generalize hA:(nthR N (lastOf T.length js i)).getD (js.getD i 0) []=A at l1 hqi lq
   generalize hB:(nthR E (js.getD i 0)).getD (W.length) []=B at l2 hqi lq
   rw [hqi]at hp
   try refine AXc.introP (fun h0=>by omega) (fun h0=>?_)
   simp (disch:=first|assumption|(push_cast<;>omega)|omega) only [go_sem,n1,n3,hA,hB]
   (repeat refine sdC ?_)
   generalize pmul A B=q at hp lq ⊢
   obtain⟨q1,q2⟩:=q
   dsimp only at hp lq ⊢
   refine AXc.introP (fun h5=>?_) (fun h5=>?_)
   ·rw [if_neg (fun k=>k h5)]at hp
    simp (disch:=first|assumption|(push_cast<;>omega)|omega) only [go_sem]
    generalize pmul (S i).1 q1=z at hp ⊢
    refine AXc.introN (fun h6=>?_) (fun h6=>?_)
    ·rw [hR,pei (by rw [hp];exact h6),hp]
     simp (disch:=first|assumption|(push_cast<;>omega)|omega) only [go_sem]
    ·simp (disch:=first|assumption|(push_cast<;>omega)|omega) only [go_sem]
     try (repeat refine sdC ?_)
     refine zo (i+1) ⟨by omega,by rw [hp];exact h6⟩ (by omega) ?_
     rw [hp,ls]
     refine Sub.of0 [] rfl rfl ?_ ?_
     ·simp only [go_sem]
      simp
     ·simp only [go_sem]
   ·rw [if_pos h5]at hp
    simp (disch:=first|assumption|(push_cast<;>omega)|omega) only [go_sem]
    refine AXc.introN (fun h6=>?_) (fun h6=>absurd h6 h5)
    rw [hR,pei (by rw [hp];exact h6),hp]
    simp (disch:=first|assumption|(push_cast<;>omega)|omega) only [go_sem]
 ·obtain rfl:i=ws.length:=by omega
  have lo:lastOf T.length js ws.length≤T.length:=zeL fun j h=>hj j (by omega)
  have n1:=zcs N (lastOf T.length js ws.length) (by omega)
  have n2:=v2 (lastOf T.length js ws.length) lo
  rw [hcl]at pf
  have hp:=pf h2
  rw [hn]at hp
  have l1:=(hl (lastOf T.length js ws.length) T.length).1
  rw [hn]at l1
  have l3:=pr ws.length
  rw [hR,hp]
  simp (disch:=first|assumption|(push_cast<;>omega)|omega) only [go_sem]
  refine AXa.go mixed (hΓ) (zg) (by kernel_rfl) ?_
  simp (disch:=first|assumption|(push_cast<;>omega)|omega) only [go_sem,n1]
  try (repeat refine sdC ?_)
  try omega
def zys(p:Mdl×List Str×List Nat):Prop:=Fit p.1∧vmB p.1=true∧p.2.1.length≤1000000∧p.2.2.length=p.2.1.length∧(∀ i,i<p.2.2.length→p.2.2.getD i 0<p.1.tags.length)∧∀ i j,(nx p.1 i j).length≤1000000000∧(em p.1 i j).length≤1000000000
noncomputable def cProb:List V→Option PR:=zu (fun p:Mdl×List Str×List Nat=>[mdlV p.1,.fs (strs p.2.1) p.2.1.length,.fs (nats .i64 p.2.2) p.2.2.length]) zys fun p=>.ret (.tup [.str (prob p.1 (zH p.1 p.2.1) p.2.2).1,.int .i64 (prob p.1 (zH p.1 p.2.1) p.2.2).2])
theorem cProb_eq(m:Mdl)(ws:List Str)(js:List Nat)(h:zys (m,ws,js)):cProb [mdlV m,.fs (strs ws) ws.length,.fs (nats .i64 js) js.length]=some (.ret (.tup [.str (prob m (zH m ws) js).1,.int .i64 (prob m (zH m ws) js).2])):=
 zn (pat:=fun p:Mdl×List Str×List Nat=>[mdlV p.1,.fs (strs p.2.1) p.2.1.length,.fs (nats .i64 p.2.2) p.2.2.length]) (fun x y h=>by simp only [List.cons.injEq,V.fs.injEq,and_true]at h;exact Prod.ext (zc6 h.1) (Prod.ext (zao h.2.1.1) (zar h.2.2.1))) (m,ws,js) h
theorem cProb_ok:∀ args r,cProb args=some r→PCall Tryz.prog 27 args r:=zk fun p h=>prob_ok p.1 p.2.1 p.2.2 h.1 h.2.1 h.2.2.1 h.2.2.2.1 h.2.2.2.2.1 h.2.2.2.2.2
noncomputable def cTRVM:List V→Option PR:=zu (fun m:Mdl=>[mdlV m]) (fun m=>Fit m) fun m=>.ret (.bool (vmB m))
theorem cTRVM_eq(m:Mdl)(h:Fit m):cTRVM [mdlV m]=some (.ret (.bool (vmB m))):=zn (pat:=fun m:Mdl=>[mdlV m]) (fun x y h=>zc6 (by simpa using h)) m h
theorem cTRVM_ok:∀ args r,cTRVM args=some r→PCall Tryz.prog 23 args r:=zk fun m h=>zhw m h
noncomputable def zcH(m:Mdl)(ws tgs:List Str):Str×Int:=
 if (vmB m&&zby ws)=false∨tgs.length≠ws.length then([],1)else if ¬∀ t∈zaH m tgs,t<m.tags.length then([],4)else prob m (zH m ws) (zaH m tgs)
theorem zmA(m:Mdl)(tgs:List Str)(i:Nat)(h:i<tgs.length):(zaH m tgs).take (i+1)=(zaH m tgs).take i++[idxS m.tags (tgs.getD i [])]:=by
 have hl:i<(zaH m tgs).length:=by simpa [zaH] using h
 rw [List.take_add_one,List.getElem?_eq_getElem hl, ←zgq m tgs i h,List.getD_eq_getElem?_getD,List.getElem?_eq_getElem hl];rfl
set_option maxHeartbeats 8000000 in
set_option maxRecDepth 100000 in
theorem ztF(m:Mdl)(ws tgs:List Str)(hf:Fit m)(hw:ws.length≤1000000)(hs:∀ s∈ws,s.length≤1000000000000000)(ht:tgs.length≤1000000)(hl:∀ i j,(nx m i j).length≤1000000000∧(em m i j).length≤1000000000):
 PCall Tryz.prog 17 [mdlV m,.fs (strs ws) ws.length,.fs (strs tgs) tgs.length] (.ret (.tup [.str (zcH m ws tgs).1,.int .i64 (zcH m ws tgs).2])):=by
 have hΓ:=zf cTRVM_ok (zf zsm (zf zwR (zf cProb_ok zh)))
 have p1:=cTRVM_eq m hf
 have p2:=zsn ws hw hs
 have p3:=fun js h=>cProb_eq m ws js h
 obtain⟨R,hr⟩:∃ R,R=zcH m ws tgs:=⟨_,rfl⟩
 rw [←hr]
 unfold zcH at hr
 refine PCall.walk (rs:=[.tmp 6,.tmp 7]) [0,1,2,3,6,7,8,9,10,25,29,40] [25] mixed (hΓ) (zg) call17 Tryz.func17 rfl Tryz.ntmps17 rfl (by kernel_rfl) (by simp) (by simp [push_cast,zbQ]) ?_
 have tt:=zmA m tgs
 have hpo:vmB m=true→tgs.length=ws.length→(∀ t∈zaH m tgs,t<m.tags.length)→zys (m,ws,zaH m tgs):=fun h1 h2 h3=>⟨hf,h1,hw,by rw [←h2];simp [zaH],fun i hi=>h3 _ (by have hi':i<(zaH m tgs).length:=hi;rw [List.getD_eq_getElem?_getD,List.getElem?_eq_getElem hi'];exact List.getElem_mem _),hl⟩
 have ta:=zgq m tgs
 have tl:(zaH m tgs).length=tgs.length:=by simp [zaH]
 have it:=zfk m.tags
 have htl:=hf.tl
 obtain⟨T,W,N,E⟩:=m
 unfold mdlV at p1 p3 ⊢
 dsimp only at p1 p3 tt ta it htl hpo hr ⊢
 generalize hjs:zaH ⟨T,W,N,E⟩ tgs=js at tt hr hpo ta tl
 have cond:(!vmB ⟨T,W,N,E⟩|| !zby ws|| !decide ((tgs.length:Int)=(ws.length:Int)))=decide ((vmB ⟨T,W,N,E⟩&&zby ws)=false∨tgs.length≠ws.length):=by have e:decide ((tgs.length:Int)=(ws.length:Int))=decide (tgs.length=ws.length):=decide_eq_decide.2 (by omega);rw [e];cases vmB ⟨T,W,N,E⟩<;>cases zby ws<;>by_cases h:tgs.length=ws.length<;>simp [h]
 simp (disch:=first|assumption|(push_cast<;>omega)|omega) only [go_sem,p1,p2]
 rw [cond]
 by_cases hc:(vmB ⟨T,W,N,E⟩&&zby ws)=false∨tgs.length≠ws.length
 ·rw [if_pos hc]at hr
  rw [decide_eq_true hc,hr]
  simp (disch:=first|assumption|(push_cast<;>omega)|omega) only [go_sem]
 rw [if_neg hc]at hr
 rw [decide_eq_false hc]
 have hvm:vmB ⟨T,W,N,E⟩=true:=by
  cases h:vmB ⟨T,W,N,E⟩with
  |true=>rfl
  |false=>exact absurd (.inl (by rw [h];rfl)) hc
 have hlen:tgs.length=ws.length:=by
  rcases Nat.decEq tgs.length ws.length with h|h
  ·exact absurd (.inr h) hc
  ·exact h
 have hr1:(¬∀ t∈js,t<T.length)→R=([],4):=fun h=>by rw [if_pos h]at hr;exact hr
 have hr2:(∀ t∈js,t<T.length)→R=prob ⟨T,W,N,E⟩ (zH ⟨T,W,N,E⟩ ws) js:=fun h=>by rw [if_neg (fun k=>k h)]at hr;exact hr
 clear hr cond hc
 simp (disch:=first|assumption|(push_cast<;>omega)|omega) only [go_sem]
 refine AXs.loop mixed (hΓ) (zg) (fun i:Nat=>[(1,.fs (strs ws) ws.length),(2,.fs (strs tgs) tgs.length),(3,.fp [.fs (strs T) T.length,.fs (strs W) W.length,.fs (zI N) N.length,.fs (zI E) E.length]),(8,slN 0 (js.take i)),(9,.int .i64 i)])
  (fun i=>⟨blkN 0 (js.take i) [],1⟩) (fun i=>i≤tgs.length∧∀ j,j<i→js.getD j 0<T.length) (fun i=>tgs.length - i) 0 (by kernel_rfl) ⟨Nat.zero_le _,fun j hj=>by omega⟩ (Sub.of0 [] rfl rfl ?_ ?_) ?_
 ·simp only [go_sem,List.take_zero,ze3]
 ·simp only [go_sem,List.take_zero,zd6]
 rintro i ⟨h1,h2⟩
 simp (disch:=first|assumption|(push_cast<;>omega)|omega) only [go_sem]
 refine AXc.introP (fun h3=>?_) (fun h3=>?_)
 ·have hi:i<tgs.length:=by omega
  have tti:=tt i hi
  have tai:=ta i hi
  have iti:=it (tgs.getD i [])
  have tkl:(js.take i).length=i:=by simp;omega
  simp (disch:=first|assumption|(push_cast<;>omega)|omega) only [go_sem]
  (repeat refine sdC ?_)
  by_cases hx:idxS T (tgs.getD i [])<T.length
  ·rw [ixI_f hx]
   try refine AXc.introP (fun h0=>by omega) (fun h0=>?_)
   generalize js.take i=acc at tti tkl ⊢
   by_cases ne:acc=[]
   ·subst ne
    have nn:[idxS T (tgs.getD i [])]≠[]:=by simp
    rw [List.nil_append]at tti
    simp (disch:=first|assumption|(push_cast<;>omega)|omega) only [go_sem,ze3,zd6]
    refine zo (i+1) ⟨by omega,fun j hj=>?_⟩ (by omega) ?_
    ·by_cases hji:j<i
     ·exact h2 j hji
     ·obtain rfl:j=i:=by omega
      rw [tai];exact hx
    rw [tti,zfw 0 nn,zdS 0 nn]
    refine Sub.of0 [(0,2)] rfl rfl ?_ ?_
    ·simp only [go_sem]
     simp
    ·simp only [go_sem]
     rfl
   ·have nn:acc++[idxS T (tgs.getD i [])]≠[]:=by simp
    have nl:(acc++[idxS T (tgs.getD i [])]).length=acc.length+1:=by simp
    have tk:List.take acc.length acc=acc:=List.take_length
    simp (disch:=first|assumption|(push_cast<;>omega)|omega) only [go_sem,zfw 0 ne,zdS 0 ne]
    (repeat refine sdC ?_)
    refine zo (i+1) ⟨by omega,fun j hj=>?_⟩ (by omega) ?_
    ·by_cases hji:j<i
     ·exact h2 j hji
     ·obtain rfl:j=i:=by omega
      rw [tai];exact hx
    rw [tti,zfw 0 nn,zdS 0 nn,nl]
    refine Sub.of0 [(0,2)] rfl rfl ?_ ?_
    ·simp only [go_sem]
     simp
    ·simp only [go_sem,tk]
  ·rw [ixI_n hx]
   rw [hr1 fun h=>hx (by rw [←tai];exact h _ (by rw [List.getD_eq_getElem?_getD,List.getElem?_eq_getElem (by omega)];exact List.getElem_mem _))]
   simp (disch:=first|assumption|(push_cast<;>omega)|omega) only [go_sem]
 ·obtain rfl:i=tgs.length:=by omega
  have hall:∀ t∈js,t<T.length:=fun t ht=>by obtain⟨k,hk,rfl⟩:=List.mem_iff_getElem.1 ht;have:=h2 k (by omega);rwa [List.getD_eq_getElem?_getD,List.getElem?_eq_getElem hk]at this
  have p4:=p3 js (hpo hvm hlen hall)
  rw [hr2 hall]
  rw [List.take_of_length_le (by omega)]
  generalize prob ⟨T,W,N,E⟩ (zH ⟨T,W,N,E⟩ ws) js=z at p4 ⊢
  by_cases ne:js=[]
  ·subst ne
   simp (disch:=first|assumption|(push_cast<;>omega)|omega) only [go_sem,ze3,zd6]
   refine AXa.go mixed (hΓ) (zg) (by kernel_rfl) ?_
   have p5:cProb [.agg [.fs (strs T) T.length,.fs (strs W) W.length,.fs (zI N) N.length,.fs (zI E) E.length],.fs (strs ws) ws.length,.fs [] 0]=some (.ret (.tup [.str z.1,.int .i64 z.2])):=p4
   simp (disch:=first|assumption|(push_cast<;>omega)|omega) only [go_sem,p5]
  ·simp (disch:=first|assumption|(push_cast<;>omega)|omega) only [go_sem,zfw 0 ne,zdS 0 ne]
   refine AXa.fz [0] rfl rfl rfl (env':=[(1,.fs (strs ws) ws.length),(3,.fp [.fs (strs T) T.length,.fs (strs W) W.length,.fs (zI N) N.length,.fs (zI E) E.length]),(8,.fs (nats .i64 js) js.length)]) (bs':=[]) (n':=1) ?_ ?_ ?_
   ·simp only [go_sem]
    right
    exact FrzF.slp (by simp) rfl rfl (by simp [zJ]) (by simp [zbg]) (zal _ _)
   ·simp only [go_sem]
   refine AXa.go mixed (hΓ) (zg) (by kernel_rfl) ?_
   simp (disch:=first|assumption|(push_cast<;>omega)|omega) only [go_sem,p4]
end Go.Proofs
