/- What the statements of chapter 36 ask ahead: large, long, Small. -/
import Derived.Test.YthbimeikbkjnkaaGreatDoorCT4
set_option linter.all false
set_option maxHeartbeats 16000000
set_option maxRecDepth 100000
namespace Go.Proofs
open Tryz Go.Ab Go.Cnt Go.Pl Go.Tg
def zr9(s:Str):Bool:=decide (s.length≤12)
def row8(r:List Str):Bool:=decide (r.length≤8)&&r.all zr9
def mat8(m:List (List Str)):Bool:=m.all row8
def zhb(m:Mdl)(ws:List Str):Prop:=m.tags.length≤3∧m.words.length≤6∧m.next.length≤5∧m.emit.length≤5∧ws.length≤4
instance (m:Mdl) (ws:List Str):Decidable (zhb m ws):=inferInstanceAs (Decidable (_∧_))
def fitB(m:Mdl)(ws:List Str):Bool:=decide (zhb m ws)&&[m.next,m.emit].all mat8
theorem matR_nth(L:List (List (List Str)))(i:Nat)(h:i<L.length):nthV (ziw L) i=.fs (zu (nthM L i)) (nthM L i).length:=by have:=matsC_at L i h;rw [←zku,this];rfl
theorem zvl(m:Mdl)(ws:List Str)(h1:m.tags.length≤1000000000000000)(h2:m.words.length≤1000000000000000)(h3:m.next.length≤1000000000000000)(h4:m.emit.length≤1000000000000000)(h5:ws.length≤1000000000000000):
 PCall prog 16 [mdlV m,.fs (strs ws) ws.length] (.ret (.bool (!fitB m ws))):=by
 obtain⟨T,W,N,E⟩:=m
 dsimp only at h1 h2 h3 h4
 refine PCall.walk (rs:=[.tmp 4]) [0,1,2,4,6,7,8,35,40,41,42,43,49,57,64,75] [25] mixed (zh) (zg) call16 func16 rfl ntmps16 rfl (by kernel_rfl) (by simp) (by simp [push_cast,zdp]) ?_
 have hb:(decide (3<(T.length:Int))||decide (6<(W.length:Int))||decide (5<(N.length:Int))||decide (5<(E.length:Int))||decide (4<(ws.length:Int)))= !decide (zhb ⟨T,W,N,E⟩ ws):=by rw [Bool.eq_iff_iff];simp only [Bool.or_eq_true,Bool.not_eq_true',decide_eq_true_eq,decide_eq_false_iff_not];unfold zhb;dsimp only;omega
 obtain⟨R,hR⟩:∃ R,R=fitB ⟨T,W,N,E⟩ ws:=⟨_,rfl⟩
 rw [←hR]
 by_cases hs:zhb ⟨T,W,N,E⟩ ws
 case neg=>
  have hv:R=false:=by rw [hR];unfold fitB;rw [decide_eq_false hs];rfl
  rw [hv]
  simp (disch:=first|assumption|(push_cast<;>omega)|omega) only [go_sem,mdlV]
  rw [hb,decide_eq_false hs]
  simp (disch:=first|assumption|(push_cast<;>omega)|omega) only [go_sem]
 have hv:R=[N,E].all mat8:=by rw [hR];unfold fitB;rw [decide_eq_true hs];rfl
 simp (disch:=first|assumption|(push_cast<;>omega)|omega) only [go_sem,mdlV]
 rw [hb,decide_eq_true hs]
 simp (disch:=first|assumption|(push_cast<;>omega)|omega) only [go_sem]
 obtain⟨s1,s2,s3,s4,s5⟩:=hs
 dsimp only at s1 s2 s3 s4 s5
 obtain⟨L,hL⟩:∃ L,L=[N,E]:=⟨_,rfl⟩
 have hLl:L.length=2:=by rw [hL];rfl
 have hlen:∀ i,i<2→(nthM L i).length≤5:=fun i hi=>by
  rw [hL];match i,hi with
  |0,_=>exact s3
  |1,_=>exact s4
 have hcells:[V.fs (zu N) N.length,V.fs (zu E) E.length]=ziw L:=by rw [hL];rfl
 rw [hcells]
 rw [←hL]at hv
 clear hcells hL hR
 refine AXs.loop mixed (zh) (zg) (fun i:Nat=>[(40,.sl 0 0 2 1 (some 2)),(41,.int .i64 2),(42,.int .i64 i)]) (fun _=>⟨[(0,.cells (ziw L))],1⟩) (fun i=>i≤2∧∀ j,j<i→mat8 (nthM L j)=true) (fun i=>2 - i) 0 (by kernel_rfl) ⟨Nat.zero_le _,fun j hj=>by omega⟩ (Sub.of0 [(0,0)] rfl rfl ?_ ?_) ?_
 ·simp only [go_sem]
 ·simp only [go_sem]
 rintro i ⟨k1,k2⟩
 simp only [go_sem]
 refine AXc.introP (fun k3=>?_) (fun k3=>?_)
 rotate_left
 ·obtain rfl:i=2:=by omega
  rw [hv,show L.all mat8=true from matR.all_t (p:=mat8) fun i hi=>k2 i (by omega)]
  simp only [go_sem]
  refine AXa.go mixed (zh) (zg) (by kernel_rfl) ?_
  simp only [go_sem]
 have hi:i<2:=by omega
 have at1:=matR_nth L i (by omega)
 have hm5:=hlen i hi
 have hmf:mat8 (nthM L i)=false→L.all mat8=false:=fun h=>matR.all_f (p:=mat8) (i:=i) (by omega) h
 generalize hM:nthM L i=M at at1 hm5 hmf
 simp (disch:=first|assumption|(push_cast<;>omega)|omega) only [go_sem,at1,hLl]
 try (repeat refine sdC ?_)
 refine AXs.loop mixed (zh) (zg) (fun j:Nat=>[(40,.sl 0 0 2 1 (some 2)),(41,.int .i64 2),(42,.int .i64 i),(6,.fs (zu M) M.length),(7,.int .i64 j)]) (fun _=>⟨[(0,.cells (ziw L))],1⟩) (fun j=>j≤M.length∧∀ q,q<j→row8 (nthR M q)=true) (fun j=>M.length - j) 0 (by kernel_rfl) ⟨Nat.zero_le _,fun q hq=>by omega⟩ (Sub.of0 [(0,0)] rfl rfl ?_ ?_) ?_
 ·simp only [go_sem]
 ·simp only [go_sem]
 rintro j ⟨k4,k5⟩
 simp only [go_sem]
 refine AXc.introP (fun k6=>?_) (fun k6=>?_)
 rotate_left
 ·obtain rfl:j=M.length:=by omega
  simp only [go_sem]
  refine AXa.go mixed (zh) (zg) (by kernel_rfl) ?_
  simp (disch:=first|assumption|(push_cast<;>omega)|omega) only [go_sem]
  refine zk (i+1) ⟨by omega,fun q hq=>?_⟩ (by omega) (Sub.of0 [(0,0)] rfl rfl ?_ ?_)
  ·by_cases hqi:q<i
   ·exact k2 q hqi
   ·obtain rfl:q=i:=by omega
    rw [hM]
    exact rowR.all_t (p:=row8) k5
  ·simp only [go_sem]
   simp
  ·simp only [go_sem]
 have hj:j<M.length:=by omega
 have at2:=zb3 M j hj
 have hrf:row8 (nthR M j)=false→L.all mat8=false:=fun h=>hmf (rowR.all_f (p:=row8) hj h)
 generalize hrr:nthR M j=r at at2 hrf
 simp (disch:=first|assumption|(push_cast<;>omega)|omega) only [go_sem,at2]
 try (repeat refine sdC ?_)
 refine AXc.introP (fun k7=>?_) (fun k7=>?_)
 ·rw [hv,hrf (by unfold row8;rw [decide_eq_false (by omega)];rfl)]
  simp (disch:=first|assumption|(push_cast<;>omega)|omega) only [go_sem]
 simp (disch:=first|assumption|(push_cast<;>omega)|omega) only [go_sem]
 refine AXs.loop mixed (zh) (zg) (fun q:Nat=>[(40,.sl 0 0 2 1 (some 2)),(41,.int .i64 2),(42,.int .i64 i),(6,.fs (zu M) M.length),(7,.int .i64 j),(8,.int .i64 q)]) (fun _=>⟨[(0,.cells (ziw L))],1⟩) (fun q=>q≤r.length∧∀ z,z<q→zr9 (r.getD z [])=true) (fun q=>r.length - q) 0 (by kernel_rfl) ⟨Nat.zero_le _,fun z hz=>by omega⟩ (Sub.of0 [(0,0)] rfl rfl ?_ ?_) ?_
 ·simp only [go_sem]
 ·simp only [go_sem]
 rintro q ⟨k8,k9⟩
 simp (disch:=first|assumption|(push_cast<;>omega)|omega) only [go_sem,at2]
 try (repeat refine sdC ?_)
 refine AXc.introP (fun k10=>?_) (fun k10=>?_)
 ·simp (disch:=first|assumption|(push_cast<;>omega)|omega) only [go_sem,at2]
  try (repeat refine sdC ?_)
  refine AXc.introP (fun k11=>?_) (fun k11=>?_)
  ·rw [hv,hrf (by unfold row8;rw [zrI (i:=q) (by omega) (by unfold zr9;exact decide_eq_false (by omega)),Bool.and_false])]
   simp (disch:=first|assumption|(push_cast<;>omega)|omega) only [go_sem]
  ·simp (disch:=first|assumption|(push_cast<;>omega)|omega) only [go_sem]
   refine zk (q+1) ⟨by omega,fun z hz=>?_⟩ (by omega) (Sub.of0 [(0,0)] rfl rfl ?_ ?_)
   ·by_cases hzq:z<q
    ·exact k9 z hzq
    ·obtain rfl:z=q:=by omega
     unfold zr9;exact decide_eq_true (by omega)
   ·simp only [go_sem]
    simp
   ·simp only [go_sem]
 ·simp only [go_sem]
  refine AXa.go mixed (zh) (zg) (by kernel_rfl) ?_
  simp (disch:=first|assumption|(push_cast<;>omega)|omega) only [go_sem]
  refine zk (j+1) ⟨by omega,fun z hz=>?_⟩ (by omega) (Sub.of0 [(0,0)] rfl rfl ?_ ?_)
  ·by_cases hzq:z<j
   ·exact k5 z hzq
   ·obtain rfl:z=j:=by omega
    rw [hrr]
    unfold row8
    rw [decide_eq_true (by omega),zrH fun q hq=>k9 q (by omega)];rfl
  ·simp only [go_sem]
   simp
  ·simp only [go_sem]
theorem zw5(x y:Mdl×List Str)(h:[mdlV x.1,V.fs (strs x.2) x.2.length]=[mdlV y.1,V.fs (strs y.2) y.2.length]):x=y:=by simp only [List.cons.injEq,V.fs.injEq,and_true]at h;exact Prod.ext (zgC h.1) (zaN h.2.1)
structure InM(m:Mdl)(u:List Str):Prop where
 tl:m.tags.length≤1000000000000000
 wl:m.words.length≤1000000000000000
 nl:m.next.length≤1000000000000000
 el:m.emit.length≤1000000000000000
 ts:∀ s∈m.tags,s.length≤1000000000000000
 ws:∀ s∈m.words,s.length≤1000000000000000
 l:u.length≤1000000000000000
 s:∀ s∈u,s.length≤1000000000000000
theorem zqX {M:List (List Str)}(h:∀ r∈M,∀ s∈r,s.length≤12)(i j:Nat):((nthR M i).getD j []).length≤1000000000:=by
 by_cases hi:i<M.length
 ·by_cases hj:j<(nthR M i).length
  ·exact Nat.le_trans (h _ (rowR.nth_mem hi) _ (zfi hj)) (by omega)
  ·rw [List.getD_eq_getElem?_getD,List.getElem?_eq_none (by omega)];simp
 ·have:nthR M i=[]:=by
   show M.getD i []=[]
   rw [List.getD_eq_getElem?_getD,List.getElem?_eq_none (by omega)];rfl
  rw [this];simp
theorem fitB_fit {m:Mdl}{ws:List Str}(hi:InM m ws)(h:fitB m ws=true):Fit m∧ws.length≤4∧∀ i j,(nx m i j).length≤1000000000∧(em m i j).length≤1000000000:=by
 unfold fitB at h;simp only [Bool.and_eq_true,decide_eq_true_eq,List.all_cons,List.all_nil,and_true]at h;obtain⟨hsz,hn,he⟩:=h;unfold zhb at hsz;obtain⟨s1,s2,s3,s4,s5⟩:=hsz;have key:∀ {M:List (List Str)},mat8 M=true→(∀ r∈M,r.length≤8)∧∀ r∈M,∀ s∈r,s.length≤12:=fun {M} h=>by unfold mat8 row8 at h;simp only [List.all_eq_true,Bool.and_eq_true,decide_eq_true_eq]at h;refine⟨fun r hr=>(h r hr).1,fun r hr s hs=>?_⟩;have:=(h r hr).2 s hs;unfold zr9 at this;exact of_decide_eq_true this
 obtain⟨n1,n2⟩:=key hn;obtain⟨e1,e2⟩:=key he;refine⟨⟨by omega,by omega,by omega,by omega,hi.ts,hi.ws,fun r hr=>Nat.le_trans (n1 r hr) (by omega),fun r hr=>Nat.le_trans (e1 r hr) (by omega),fun r hr s hs=>Nat.le_trans (n2 r hr s hs) (by omega),fun r hr s hs=>Nat.le_trans (e2 r hr s hs) (by omega)⟩,s5,fun i j=>⟨zqX n2 i j,zqX e2 i j⟩⟩
theorem kn_f {f:Int}(hf:f≠0)(r:Str×Int):(kn f r).2=f:=by
 unfold kn;by_cases h:r.2≠0
 ·rw [if_pos h];exact if_neg hf
 ·rw [if_neg h]
theorem kn_0(r:Str×Int):(kn 0 r).2=r.2∧(r.2=0→(kn 0 r).1=r.1):=by
 unfold kn;split
 ·rename_i h;exact⟨rfl,fun k=>absurd k h⟩
 ·rename_i h;have h':r.2=0:=Classical.not_not.1 h;exact⟨h'.symm,fun _=>rfl⟩
theorem sc_pr(m:Mdl)(cs js:List Nat):∀ k,(scP m cs js k).2=(prR m cs js k).2∧((prR m cs js k).2=0→(scP m cs js k).1=(prR m cs js k).1)
 |0=>⟨rfl,fun _=>rfl⟩
 |k+1=>by
  obtain⟨h1,h2⟩:=sc_pr m cs js k;rw [scP,prR];have hq:zot m cs js k=pmul (scA m js k) (scB m cs js k):=rfl;rw [hq];generalize scA m js k=a;generalize scB m cs js k=b;unfold tm;by_cases h0:(prR m cs js k).2=0
  ·rw [h1,if_neg (by simp [h0]),h2 h0,h0];obtain⟨k1,k2⟩:=kn_0 (pmul a b);rw [k1];by_cases h3:(pmul a b).2=0
   ·rw [if_neg (by simp [h3]),h3,k2 h3];exact kn_0 _
   ·rw [if_pos h3];exact⟨kn_f h3 _,fun h=>absurd h h3⟩
  ·rw [if_pos h0,h1,kn_f h0,kn_f h0];exact⟨rfl,fun h=>absurd h h0⟩
theorem zfE(m:Mdl)(ws tgs:List Str):zb7 m ws tgs=zcv m ws tgs:=by
 unfold zb7 zcv;split
 ·rfl
 ·rename_i h1;have hlen:tgs.length=ws.length:=Classical.not_not.1 fun h=>h1 (.inr h);split
  ·rfl
  ·have hl:(zbo m tgs).length=(zq m ws).length:=by simp [zbo,zq,hlen]
   obtain⟨k1,k2⟩:=sc_pr m (zq m ws) (zbo m tgs) (zq m ws).length;unfold scF prob;rw [hl,k1];generalize nx m (lastOf m.tags.length (zbo m tgs) (zq m ws).length) m.tags.length=a;unfold tm;by_cases h0:(prR m (zq m ws) (zbo m tgs) (zq m ws).length).2=0
   ·rw [k2 h0,h0];obtain⟨k3,k4⟩:=kn_0 (pmul (prR m (zq m ws) (zbo m tgs) (zq m ws).length).1 a);rw [k3];by_cases h3:(pmul (prR m (zq m ws) (zbo m tgs) (zq m ws).length).1 a).2=0
    ·rw [if_neg (by simp [h3]),if_neg (by simp),k4 h3];exact Prod.ext rfl h3.symm
    ·rw [if_pos h3,if_neg (by simp)];exact Prod.ext (pmul_err h3).symm rfl
   ·rw [kn_f h0,if_pos h0,if_pos h0]
noncomputable def zzp:List V→Option PR:=zF (fun p:Mdl×List Str=>[mdlV p.1,.fs (strs p.2) p.2.length]) (fun p=>InM p.1 p.2) fun p=>.ret (.bool (!fitB p.1 p.2))
theorem zuq(m:Mdl)(ws:List Str)(h:InM m ws):zzp [mdlV m,.fs (strs ws) ws.length]=some (.ret (.bool (!fitB m ws))):=
 zo (pat:=fun p:Mdl×List Str=>[mdlV p.1,.fs (strs p.2) p.2.length]) zw5 (m,ws) h
theorem zup:∀ args r,zzp args=some r→PCall prog 16 args r:=zn fun p h=>zvl p.1 p.2 h.tl h.wl h.nl h.el h.l
noncomputable def cTAwk:List V→Option PR:=zF (fun _:Unit=>[]) (fun _=>True) fun _=>.ret (.bool true)
@[go_sem] theorem cTAwk_eq:cTAwk []=some (.ret (.bool true)):=zo (pat:=fun _:Unit=>([]:List V)) (fun _ _ _=>rfl) () trivial
theorem cTAwk_ok:∀ args r,cTAwk args=some r→PCall prog 15 args r:=zn fun _ _=>zuO
def ScOK(p:Mdl×List Str×List Str):Prop:=Fit p.1∧p.2.1.length≤1000000∧(∀ s∈p.2.1,s.length≤1000000000000000)∧p.2.2.length≤1000000∧∀ i j,(nx p.1 i j).length≤1000000000∧(em p.1 i j).length≤1000000000
theorem mww_inj(x y:Mdl×List Str×List Str)(h:[mdlV x.1,V.fs (strs x.2.1) x.2.1.length,V.fs (strs x.2.2) x.2.2.length]=[mdlV y.1,V.fs (strs y.2.1) y.2.1.length,V.fs (strs y.2.2) y.2.2.length]):x=y:=by simp only [List.cons.injEq,V.fs.injEq,and_true]at h;exact Prod.ext (zgC h.1) (Prod.ext (zaN h.2.1.1) (zaN h.2.2.1))
noncomputable def zzo:List V→Option PR:=zF (fun p:Mdl×List Str×List Str=>[mdlV p.1,.fs (strs p.2.1) p.2.1.length,.fs (strs p.2.2) p.2.2.length]) ScOK fun p=>.ret (.tup [.str (zb7 p.1 p.2.1 p.2.2).1,.int .i64 (zb7 p.1 p.2.1 p.2.2).2])
theorem zju(m:Mdl)(ws tgs:List Str)(h:ScOK (m,ws,tgs)):zzo [mdlV m,.fs (strs ws) ws.length,.fs (strs tgs) tgs.length]=some (.ret (.tup [.str (zb7 m ws tgs).1,.int .i64 (zb7 m ws tgs).2])):=
 zo (pat:=fun p:Mdl×List Str×List Str=>[mdlV p.1,.fs (strs p.2.1) p.2.1.length,.fs (strs p.2.2) p.2.2.length]) mww_inj (m,ws,tgs) h
theorem zuo:∀ args r,zzo args=some r→PCall prog 12 args r:=zn fun p h=>score_ok p.1 p.2.1 p.2.2 h.1 h.2.1 h.2.2.2.1 h.2.2.2.2
end Go.Proofs

namespace Go.Proofs
open Tryz Go.Ab Go.Cnt Go.Pl
theorem dStr:Dec prog 9 strR (fun s=>s.length≤reachBytes):=Dec.str Tryz.underlying9 (by kernel_rfl)
def okS(l:List Str):Prop:=l.length≤reachBytes∧∀ s∈l,s.length≤reachBytes
theorem dStrs:Dec prog 22 (slR strR) okS:=dStr.slice Tryz.underlying22 (by kernel_rfl) (of_decide_eq_true (by kernel_rfl))
theorem dRows:Dec prog 23 (slR (slR strR)) (fun l=>l.length≤reachBytes):=(dStrs.slice Tryz.underlying23 (by kernel_rfl) (of_decide_eq_true (by kernel_rfl))).cast (fun a=>a) rfl (fun _=>rfl) fun _ h=>h.1
abbrev MdlT:=((List Str×List Str)×List (List Str))×List (List Str)
def okM(p:MdlT):Prop:=((okS p.1.1.1∧okS p.1.1.2)∧p.1.2.length≤reachBytes)∧p.2.length≤reachBytes
abbrev mdlR:=zkk (zkk (zkk (slR strR) (slR strR)) (slR (slR strR))) (slR (slR strR))
theorem dMdl:Dec prog 25 mdlR okM:=Dec.four Tryz.underlying25 dStrs dStrs dRows dRows rfl rfl rfl rfl (by kernel_rfl)
theorem zck {n:Nat}(h:n≤reachBytes):n≤1000000000000000:=Nat.le_trans h (by unfold reachBytes;omega)
def mdlOf(p:MdlT):Mdl:=⟨p.1.1.1,p.1.1.2,p.1.2,p.2⟩
theorem mdl_enc(p:MdlT):V.agg (mdlR.enc p)=mdlV (mdlOf p):=by obtain⟨⟨⟨T,W⟩,N⟩,E⟩:=p;show V.agg ((([V.fs (strR.cells T) T.length]++[V.fs (strR.cells W) W.length])++[V.fs ((slR strR).cells N) N.length])++[V.fs ((slR strR).cells E) E.length])=_;rw [zcZ,zcZ,zvT,zvT];rfl
theorem inM_of {p:MdlT}{w:List Str}(h:okM p)(hw:okS w):InM (mdlOf p) w:=
 ⟨zck h.1.1.1.1,zck h.1.1.2.1,zck h.1.2,zck h.2,fun s hs=>zck (h.1.1.1.2 s hs),fun s hs=>zck (h.1.1.2.2 s hs),zck hw.1,fun s hs=>zck (hw.2 s hs)⟩
end Go.Proofs

namespace Go.Proofs
open Go.Ab Go.Cnt Go.Pl Go.Tg
def plS(f:Int)(a b:Str):Str×Int:=ps f a b
theorem zi3(a b:Str):(ps 2 a b).2=2:=zxE _
theorem zhw(f:Int)(v u:Str)(j:List Nat)(a b:Str):one stS plS f v u j a b=ps (tm (tm f a b).2 u (tm f a b).1).2 v (tm (tm f a b).2 u (tm f a b).1).1:=by simp only [one,plS,stS]
theorem zej(f:Int)(v u:Str)(a:Str):one' stS plS f v u a=ps (tm f u a).2 v (tm f u a).1:=by simp only [one',plS,stS]
theorem zqC(v u:Str)(j:List Nat)(a b:Str):(one stS plS 2 v u j a b).2=2:=by rw [zhw,ziT,ziT,zi3]
theorem oneS_oc {B:Prop}{Y x y p q vv cu:Nat}{v u a b:Str}(j:List Nat)(hv:Is v vv (Y*(y*q)))(hu:Is u cu Y)(ha:Is a x y)(hb:Is b p q)
 (h1:B→x*p<10 ^ 400∧y*q<10 ^ 400) (h2:B→cu*(x*p)<10 ^ 400∧Y*(y*q)<10 ^ 400) (h3:B→vv+cu*(x*p)<10 ^ 400):
 Oc B (one stS plS 0 v u j a b).2 (Is (one stS plS 0 v u j a b).1 (vv+cu*(x*p)) (Y*(y*q))):=by
 rw [zhw]
 rcases znY ha hb h1 with⟨e,hi⟩|⟨e,hn⟩
 ·rw [e]
  rcases znY hu hi h2 with⟨e2,hi2⟩|⟨e2,hn2⟩
  ·rw [e2]
   exact ps_oc hv hi2 fun hb=>⟨h3 hb,(h2 hb).2⟩
  ·rw [e2]
   exact .inr ⟨zi3 _ _,hn2⟩
 ·rw [e,ziT,zi3]
  exact .inr ⟨rfl,hn⟩
theorem zlH {ι:Type}(f:ι→Nat)(c:Nat):∀ l:List ι,(∀ i∈l,f i≤c)→(l.map f).sum≤l.length*c
 |[],_=>by simp
 |i::l,h=>by have h1:=h i (by simp);have h2:=zlH f c l fun j hj=>h j (by simp [hj]);simp only [List.map_cons,List.sum_cons,List.length_cons,Nat.add_mul,Nat.one_mul];omega
def pS(n t:Nat)(g:Nat→Nat)(k:Nat):Nat:=(List.range k).foldl (fun v i=>if i∈src n t then v+g i else v) 0
theorem zht(n t:Nat)(g:Nat→Nat)(k:Nat):pS n t g (k+1)=if k∈src n t then pS n t g k+g k else pS n t g k:=by unfold pS;rw [List.range_succ,List.foldl_append];rfl
theorem zoA(n t:Nat)(g:Nat→Nat){k l:Nat}(h:k≤l):pS n t g k≤pS n t g l:=by
 induction l with
 |zero=>rw [Nat.le_zero.1 h];exact Nat.le_refl _
 |succ l ih=>
  rcases Nat.lt_or_ge k (l+1)with h'|h'
  ·refine Nat.le_trans (ih (by omega)) ?_;rw [zht];split
   ·exact Nat.le_add_right _ _
   ·exact Nat.le_refl _
  ·rw [Nat.le_antisymm h h'];exact Nat.le_refl _
theorem zmc(n t:Nat)(g:Nat→Nat):pS n t g (n+1)=(src n t).foldl (fun v i=>v+g i) 0:=(zj4 n t (fun v i=>v+g i) 0).symm
section
variable {m:Mdl}{cs:List Nat}{N:Nat→Nat→Nat→Nat}{E:Nat→Nat→Nat}{b:Nat→Nat}{DN DE:Nat→Nat}{Df:Nat}
theorem zvR(H:Nums m cs N E b DN DE Df)(h3:m.tags.length≤3):∀ t i,t≤cs.length→i∈src m.tags.length t→sfw m.tags.length (wN N E) t i≤3 ^ t*YY DN DE t
 |0,i,_,_=>Nat.le_refl _
 |t+1,j,ht,hj=>by
  have hj':j<m.tags.length:=by simpa [src] using hj
  rw [sfw,zbS,Nat.zero_add];have key:=zlH (fun i=>sfw m.tags.length (wN N E) t i*wN N E t i j) (3 ^ t*YY DN DE t*(DN t*DE t)) (src m.tags.length t) fun i hi=>by exact Nat.mul_le_mul (zvR H h3 t i (by omega) hi) (Nat.mul_le_mul (H.n t i j (by omega) hi hj').2 (H.e t j (by omega) hj').2)
  refine Nat.le_trans key (Nat.le_trans (Nat.mul_le_mul_right _ (zg9 h3)) (Nat.le_of_eq ?_));rw [YY,Nat.pow_succ];ac_rfl
theorem sfin_le(H:Nums m cs N E b DN DE Df)(h3:m.tags.length≤3):sfin m.tags.length (wN N E) b cs.length≤3 ^ (cs.length+1)*(YY DN DE cs.length*Df):=by
 rw [sfin,zbS,Nat.zero_add];have key:=zlH (fun i=>sfw m.tags.length (wN N E) cs.length i*b i) (3 ^ cs.length*YY DN DE cs.length*Df) (src m.tags.length cs.length) fun i hi=>
  Nat.mul_le_mul (zvR H h3 cs.length i (Nat.le_refl _) hi) (H.f i hi).2
 refine Nat.le_trans key (Nat.le_trans (Nat.mul_le_mul_right _ (zg9 h3)) (Nat.le_of_eq ?_));rw [Nat.pow_succ];ac_rfl
theorem p3_le {k:Nat}(h:k≤5):3 ^ k≤10 ^ 4:=Nat.le_trans (Nat.pow_le_pow_right (by decide) h) (by decide)
theorem sfw_lt(H:Nums m cs N E b DN DE Df)(h3:m.tags.length≤3)(h4:cs.length≤4)(hB:10 ^ 4*(YY DN DE cs.length*Df)<10 ^ 400)(t i:Nat)(ht:t≤cs.length)(hi:i∈src m.tags.length t):sfw m.tags.length (wN N E) t i<10 ^ 400:=by have k1:=zlw H ht;have k2:=Nat.le_mul_of_pos_right (YY DN DE cs.length) H.pf;exact Nat.lt_of_le_of_lt (Nat.le_trans (zvR H h3 t i ht hi) (Nat.mul_le_mul (p3_le (by omega)) (Nat.le_trans k1 k2))) hB
theorem sfin_lt(H:Nums m cs N E b DN DE Df)(h3:m.tags.length≤3)(h4:cs.length≤4)(hB:10 ^ 4*(YY DN DE cs.length*Df)<10 ^ 400):sfin m.tags.length (wN N E) b cs.length<10 ^ 400:=
 Nat.lt_of_le_of_lt (Nat.le_trans (sfin_le H h3) (Nat.mul_le_mul_right _ (p3_le (by omega)))) hB
theorem YF_lt(hB:10 ^ 4*(YY DN DE cs.length*Df)<10 ^ 400):YY DN DE cs.length*Df<10 ^ 400:=Nat.lt_of_le_of_lt (Nat.le_mul_of_pos_left _ (by decide)) hB
theorem YY_lt(H:Nums m cs N E b DN DE Df)(hB:10 ^ 4*(YY DN DE cs.length*Df)<10 ^ 400){t:Nat}(ht:t≤cs.length):YY DN DE t<10 ^ 400:=
 Nat.lt_of_le_of_lt (Nat.le_trans (zlw H ht) (Nat.le_mul_of_pos_right _ H.pf)) (YF_lt hB)
def Bd(B:Prop)(m:Mdl)(cs:List Nat)(DN DE:Nat→Nat)(Df:Nat):Prop:=B→m.tags.length≤3∧cs.length≤4∧10 ^ 4*(YY DN DE cs.length*Df)<10 ^ 400
def zrK(m:Mdl)(N:Nat→Nat→Nat→Nat)(E:Nat→Nat→Nat)(DN DE:Nat→Nat)(t:Nat)(bef:Nat→Option Str):Prop:=
 ∀ i,i≤m.tags.length→(i∈src m.tags.length t→∃ u,bef i=some u∧Is u (sfw m.tags.length (wN N E) t i) (YY DN DE t))∧(i∉src m.tags.length t→bef i=none)
theorem ze1(bef:Nat→Option Str)(j c:Nat):∀ k,(row1 stS plS m [48] bef j c 2 k).2=2
 |0=>rfl
 |k+1=>by
  rw [row1];cases bef k with
  |none=>exact ze1 bef j c k
  |some u=>dsimp only;rw [ze1 bef j c k];exact zqC _ _ _ _ _
theorem zqx {B:Prop}(H:Nums m cs N E b DN DE Df)(hB:Bd B m cs DN DE Df){t j:Nat}(ht:t<cs.length)(hj:j<m.tags.length){bef:Nat→Option Str}(hs:zrK m N E DN DE t bef):
 ∀ k,k≤m.tags.length+1→Oc B (row1 stS plS m [48] bef j (cs.getD t 0) 0 k).2 (Is (row1 stS plS m [48] bef j (cs.getD t 0) 0 k).1 (pS m.tags.length t (fun i=>sfw m.tags.length (wN N E) t i*wN N E t i j) k) (YY DN DE (t+1)))
 |0,_=>.inl ⟨rfl,zfU (zjF H _)⟩
 |k+1,hk=>by
  have ih:=zqx H hB ht hj hs k (by omega);have htot:sfw m.tags.length (wN N E) (t+1) j=pS m.tags.length t (fun i=>sfw m.tags.length (wN N E) t i*wN N E t i j) (m.tags.length+1):=(zmc _ _ _).symm;have hmono:=zoA m.tags.length t (fun i=>sfw m.tags.length (wN N E) t i*wN N E t i j) hk;rw [row1];rw [zht]at hmono ⊢;obtain⟨h1,h2⟩:=hs k (by omega);by_cases hk':k∈src m.tags.length t
  ·obtain⟨u,hu,hr⟩:=h1 hk';rw [if_pos hk']at hmono ⊢;rw [hu];dsimp only at hmono ⊢;rcases ih with⟨e,hi⟩|⟨e,hn⟩
   ·rw [e];obtain⟨n1,n2⟩:=H.n t k j ht hk' hj;obtain⟨e1,e2⟩:=H.e t j ht hj;have hsm:B→pS m.tags.length t (fun i=>sfw m.tags.length (wN N E) t i*wN N E t i j) k+sfw m.tags.length (wN N E) t k*(N t k j*E t j)<10 ^ 400:=fun hb=>by obtain⟨b1,b2,b3⟩:=hB hb;refine Nat.lt_of_le_of_lt hmono ?_;rw [←htot];exact sfw_lt H b1 b2 b3 (t+1) j (by omega) (by simpa [src] using hj)
    have hYT:B→YY DN DE (t+1)<10 ^ 400:=fun hb=>YY_lt H (hB hb).2.2 (by omega);refine oneS_oc [j] hi hr n1 e1 (fun hb=>⟨?_,?_⟩) (fun hb=>⟨?_,hYT hb⟩) hsm
    ·exact Nat.lt_of_le_of_lt (Nat.le_trans (Nat.mul_le_mul n2 e2) (zuY H t)) (hYT hb)
    ·exact Nat.lt_of_le_of_lt (zuY H t) (hYT hb)
    ·exact Nat.lt_of_le_of_lt (Nat.le_add_left _ _) (hsm hb)
   ·exact .inr ⟨by rw [e];exact zqC _ _ _ _ _,hn⟩
  ·rw [h2 hk',if_neg hk'];exact ih
theorem zlV(bef:Nat→Option Str)(c:Nat):∀ k,(rowK stS plS m [48] bef c 2 k).2=2
 |0=>rfl
 |k+1=>by rw [rowK];dsimp only;rw [zlV bef c k];exact ze1 _ _ _ _
theorem zqv {B:Prop}(H:Nums m cs N E b DN DE Df)(hB:Bd B m cs DN DE Df){t:Nat}(ht:t<cs.length){bef:Nat→Option Str}(hs:zrK m N E DN DE t bef):
 ∀ k,k≤m.tags.length→Oc B (rowK stS plS m [48] bef (cs.getD t 0) 0 k).2 (∀ j,j<k→∃ u,(rowK stS plS m [48] bef (cs.getD t 0) 0 k).1[j]? =some u∧Is u (sfw m.tags.length (wN N E) (t+1) j) (YY DN DE (t+1)))
 |0,_=>.inl ⟨rfl,fun j hj=>by omega⟩
 |k+1,hk=>by
  have hl:=zbQ stS plS m [48] bef (cs.getD t 0) 0 k;rw [rowK];dsimp only;rcases zqv H hB ht hs k (by omega)with⟨e,hi⟩|⟨e,hn⟩
  ·rw [e];have ho:=zqx H hB ht (show k<m.tags.length by omega) hs (m.tags.length+1) (Nat.le_refl _);rw [zmc]at ho;rcases ho with⟨e2,h2⟩|⟨e2,hn⟩
   ·refine .inl ⟨e2,fun j hj=>?_⟩;rcases Nat.lt_or_ge j k with h|h
    ·obtain⟨u,hu,hr⟩:=hi j h;exact⟨u,by rw [List.getElem?_append_left (by omega)];exact hu,hr⟩
    ·have:j=k:=by omega
     subst this;refine⟨_,by rw [List.getElem?_append_right (by omega),hl,Nat.sub_self];rfl,?_⟩;rw [sfw];exact h2
   ·exact .inr ⟨e2,hn⟩
  ·exact .inr ⟨by rw [e];exact ze1 _ _ _ _,hn⟩
theorem zx8 {B:Prop}(H:Nums m cs N E b DN DE Df)(hB:Bd B m cs DN DE Df):∀ t,t≤cs.length→Oc B (fwdT stS plS m [48] [49] cs t).2 (zrK m N E DN DE t (befT m [49] t (fwdT stS plS m [48] [49] cs t).1))
 |0,_=>.inl ⟨rfl,fun i hi=>by
  unfold befT;simp only [if_true,src,List.mem_singleton];constructor
  ·intro h;rw [if_pos h];exact⟨_,rfl,zmA⟩
  ·intro h;rw [if_neg h]⟩
 |t+1,ht=>by
  rw [fwdT];rcases zx8 H hB t (by omega)with⟨e,hi⟩|⟨e,hn⟩
  ·rw [e];have hl:=zbQ stS plS m [48] (befT m [49] t (fwdT stS plS m [48] [49] cs t).1) (cs.getD t 0) 0 m.tags.length;rcases zqv H hB (show t<cs.length by omega) hi m.tags.length (Nat.le_refl _)with⟨e2,h2⟩|⟨e2,hn⟩
   ·refine .inl ⟨e2,fun i hi=>?_⟩;have es:src m.tags.length (t+1)=List.range m.tags.length:=by simp [src]
    rw [show ∀ l:List Str,befT m [49] (t+1) l i=l[i]? from fun l=>if_neg (by omega),es,List.mem_range];refine⟨fun h=>h2 i h,fun h=>?_⟩;rw [List.getElem?_eq_none (by rw [hl];omega)]
   ·exact .inr ⟨e2,hn⟩
  ·exact .inr ⟨by rw [e];exact zlV _ _ _,hn⟩
theorem zhR(bef:Nat→Option Str):∀ k,(fin1 stS plS m [48] bef 2 k).2=2
 |0=>rfl
 |k+1=>by
  rw [fin1];cases bef k with
  |none=>exact zhR bef k
  |some u=>dsimp only;rw [zhR bef k,zej,ziT,zi3]
theorem zq1 {B:Prop}(H:Nums m cs N E b DN DE Df)(hB:Bd B m cs DN DE Df){bef:Nat→Option Str}(hs:zrK m N E DN DE cs.length bef):
 ∀ k,k≤m.tags.length+1→Oc B (fin1 stS plS m [48] bef 0 k).2 (Is (fin1 stS plS m [48] bef 0 k).1 (pS m.tags.length cs.length (fun i=>sfw m.tags.length (wN N E) cs.length i*b i) k) (YY DN DE cs.length*Df))
 |0,_=>.inl ⟨rfl,zfU (Nat.mul_pos (zjF H _) H.pf)⟩
 |k+1,hk=>by
  have ih:=zq1 H hB hs k (by omega);have htot:sfin m.tags.length (wN N E) b cs.length=pS m.tags.length cs.length (fun i=>sfw m.tags.length (wN N E) cs.length i*b i) (m.tags.length+1):=(zmc _ _ _).symm;have hmono:=zoA m.tags.length cs.length (fun i=>sfw m.tags.length (wN N E) cs.length i*b i) hk;rw [fin1];rw [zht]at hmono ⊢;obtain⟨h1,h2⟩:=hs k (by omega);by_cases hk':k∈src m.tags.length cs.length
  ·obtain⟨u,hu,hr⟩:=h1 hk';rw [if_pos hk']at hmono ⊢;rw [hu];dsimp only at hmono ⊢;rcases ih with⟨e,hi⟩|⟨e,hn⟩
   ·rw [e];obtain⟨n1,n2⟩:=H.f k hk';rw [zej];have hsm:B→pS m.tags.length cs.length (fun i=>sfw m.tags.length (wN N E) cs.length i*b i) k+sfw m.tags.length (wN N E) cs.length k*b k<10 ^ 400:=fun hb=>by obtain⟨b1,b2,b3⟩:=hB hb;refine Nat.lt_of_le_of_lt hmono ?_;rw [←htot];exact sfin_lt H b1 b2 b3
    have hYF:B→YY DN DE cs.length*Df<10 ^ 400:=fun hb=>YF_lt (hB hb).2.2;rcases znY (B:=B) hr n1 (fun hb=>⟨Nat.lt_of_le_of_lt (Nat.le_add_left _ _) (hsm hb),hYF hb⟩)with⟨e2,hi2⟩|⟨e2,hn2⟩
    ·rw [e2];exact ps_oc hi hi2 fun hb=>⟨hsm hb,hYF hb⟩
    ·rw [e2];exact .inr ⟨zi3 _ _,hn2⟩
   ·rw [e,zej,ziT,zi3];exact .inr ⟨rfl,hn⟩
  ·rw [h2 hk',if_neg hk'];exact ih
theorem finS_oc {B:Prop}(H:Nums m cs N E b DN DE Df)(hB:Bd B m cs DN DE Df):Oc B (finT stS plS m [48] [49] cs).2 (Is (finT stS plS m [48] [49] cs).1 (sfin m.tags.length (wN N E) b cs.length) (YY DN DE cs.length*Df)):=by
 unfold finT;rcases zx8 H hB cs.length (Nat.le_refl _)with⟨e,hi⟩|⟨e,hn⟩
 ·rw [e];have:=zq1 H hB hi (m.tags.length+1) (Nat.le_refl _);rw [zmc]at this;exact this
 ·exact .inr ⟨by rw [e];exact zhR _ _,hn⟩
end
end Go.Proofs
