/- What the statements of chapter 36 ask ahead: large, long, Small. -/
import Derived.Test.YthbimeikbkjnkaaGreatDoorBTT1
set_option linter.all false
namespace Go.Proofs
open Go.Ab Go.Cnt Go.Pl Go.Tg
def zu9(s:Str):Bool:=decide (s.length≤12)
def row8(r:List Str):Bool:=decide (r.length≤8)&&r.all zu9
def mat8(m:List (List Str)):Bool:=m.all row8
def ziD(m:Mdl)(ws:List Str):Prop:=m.tags.length≤3∧m.words.length≤6∧m.next.length≤5∧m.emit.length≤5∧ws.length≤4
instance (m:Mdl) (ws:List Str):Decidable (ziD m ws):=inferInstanceAs (Decidable (_∧_))
def fitB(m:Mdl)(ws:List Str):Bool:=decide (ziD m ws)&&[m.next,m.emit].all mat8
theorem matR_nth(L:List (List (List Str)))(i:Nat)(h:i<L.length):nthV (zib L) i=.fs (zI (nthM L i)) (nthM L i).length:=by have:=matsC_at L i h;rw [←zkf,this];rfl
set_option maxHeartbeats 8000000 in
set_option maxRecDepth 100000 in
theorem zuU(m:Mdl)(ws:List Str)(h1:m.tags.length≤1000000000000000)(h2:m.words.length≤1000000000000000)(h3:m.next.length≤1000000000000000)(h4:m.emit.length≤1000000000000000)(h5:ws.length≤1000000000000000):
 PCall Tryz.prog 16 [mdlV m,.fs (strs ws) ws.length] (.ret (.bool (!fitB m ws))):=by
 obtain⟨T,W,N,E⟩:=m
 dsimp only at h1 h2 h3 h4
 refine PCall.walk (rs:=[.tmp 4]) [0,1,2,4,6,7,8,35,40,41,42,43,49,57,64,75] [25] mixed (zh) (zf) call16 Tryz.func16 rfl Tryz.ntmps16 rfl (by kernel_rfl) (by simp) (by simp [push_cast,zb1]) ?_
 have hb:(decide (3<(T.length:Int))||decide (6<(W.length:Int))||decide (5<(N.length:Int))||decide (5<(E.length:Int))||decide (4<(ws.length:Int)))= !decide (ziD ⟨T,W,N,E⟩ ws):=by rw [Bool.eq_iff_iff];simp only [Bool.or_eq_true,Bool.not_eq_true',decide_eq_true_eq,decide_eq_false_iff_not];unfold ziD;dsimp only;omega
 obtain⟨R,hR⟩:∃ R,R=fitB ⟨T,W,N,E⟩ ws:=⟨_,rfl⟩
 rw [←hR]
 by_cases hs:ziD ⟨T,W,N,E⟩ ws
 case neg=>
  have hv:R=false:=by rw [hR];unfold fitB;rw [decide_eq_false hs];rfl
  rw [hv]
  simp (disch:=first|assumption|(push_cast<;>omega)|omega) only [go_sem,mdlV]
  rw [hb,decide_eq_false hs]
  simp (disch:=first|assumption|(push_cast<;>omega)|omega) only [go_sem]
 have hv:R=[N,E].all mat8:=by rw [hR];unfold fitB;rw [decide_eq_true hs];rfl
 simp (disch:=first|assumption|(push_cast<;>omega)|omega) only [go_sem,mdlV]
 rw [hb,decide_eq_true hs]
 simp (disch:=first|assumption|(push_cast<;>omega)|omega) only [go_sem]
 obtain⟨s1,s2,s3,s4,s5⟩:=hs
 dsimp only at s1 s2 s3 s4 s5
 obtain⟨L,hL⟩:∃ L,L=[N,E]:=⟨_,rfl⟩
 have hLl:L.length=2:=by rw [hL];rfl
 have hlen:∀ i,i<2→(nthM L i).length≤5:=fun i hi=>by
  rw [hL];match i,hi with
  |0,_=>exact s3
  |1,_=>exact s4
 have hcells:[V.fs (zI N) N.length,V.fs (zI E) E.length]=zib L:=by rw [hL];rfl
 rw [hcells]
 rw [←hL]at hv
 clear hcells hL hR
 refine AXs.loop mixed (zh) (zf) (fun i:Nat=>[(40,.sl 0 0 2 1 (some 2)),(41,.int .i64 2),(42,.int .i64 i)]) (fun _=>⟨[(0,.cells (zib L))],1⟩) (fun i=>i≤2∧∀ j,j<i→mat8 (nthM L j)=true) (fun i=>2 - i) 0 (by kernel_rfl) ⟨Nat.zero_le _,fun j hj=>by omega⟩ (Sub.of0 [(0,0)] rfl rfl ?_ ?_) ?_
 ·simp only [go_sem]
 ·simp only [go_sem]
 rintro i ⟨k1,k2⟩
 simp only [go_sem]
 refine AXc.introP (fun k3=>?_) (fun k3=>?_)
 rotate_left
 ·obtain rfl:i=2:=by omega
  rw [hv,show L.all mat8=true from matR.all_t (p:=mat8) fun i hi=>k2 i (by omega)]
  simp only [go_sem]
  refine AXa.go mixed (zh) (zf) (by kernel_rfl) ?_
  simp only [go_sem]
 have hi:i<2:=by omega
 have at1:=matR_nth L i (by omega)
 have hm5:=hlen i hi
 have hmf:mat8 (nthM L i)=false→L.all mat8=false:=fun h=>matR.all_f (p:=mat8) (i:=i) (by omega) h
 generalize hM:nthM L i=M at at1 hm5 hmf
 simp (disch:=first|assumption|(push_cast<;>omega)|omega) only [go_sem,at1,hLl]
 try (repeat refine sdC ?_)
 refine AXs.loop mixed (zh) (zf) (fun j:Nat=>[(40,.sl 0 0 2 1 (some 2)),(41,.int .i64 2),(42,.int .i64 i),(6,.fs (zI M) M.length),(7,.int .i64 j)]) (fun _=>⟨[(0,.cells (zib L))],1⟩) (fun j=>j≤M.length∧∀ q,q<j→row8 (nthR M q)=true) (fun j=>M.length - j) 0 (by kernel_rfl) ⟨Nat.zero_le _,fun q hq=>by omega⟩ (Sub.of0 [(0,0)] rfl rfl ?_ ?_) ?_
 ·simp only [go_sem]
 ·simp only [go_sem]
 rintro j ⟨k4,k5⟩
 simp only [go_sem]
 refine AXc.introP (fun k6=>?_) (fun k6=>?_)
 rotate_left
 ·obtain rfl:j=M.length:=by omega
  simp only [go_sem]
  refine AXa.go mixed (zh) (zf) (by kernel_rfl) ?_
  simp (disch:=first|assumption|(push_cast<;>omega)|omega) only [go_sem]
  refine zk (i+1) ⟨by omega,fun q hq=>?_⟩ (by omega) (Sub.of0 [(0,0)] rfl rfl ?_ ?_)
  ·by_cases hqi:q<i
   ·exact k2 q hqi
   ·obtain rfl:q=i:=by omega
    rw [hM]
    exact rowR.all_t (p:=row8) k5
  ·simp only [go_sem]
   simp
  ·simp only [go_sem]
 have hj:j<M.length:=by omega
 have at2:=zcC M j hj
 have hrf:row8 (nthR M j)=false→L.all mat8=false:=fun h=>hmf (rowR.all_f (p:=row8) hj h)
 generalize hrr:nthR M j=r at at2 hrf
 simp (disch:=first|assumption|(push_cast<;>omega)|omega) only [go_sem,at2]
 try (repeat refine sdC ?_)
 refine AXc.introP (fun k7=>?_) (fun k7=>?_)
 ·rw [hv,hrf (by unfold row8;rw [decide_eq_false (by omega)];rfl)]
  simp (disch:=first|assumption|(push_cast<;>omega)|omega) only [go_sem]
 simp (disch:=first|assumption|(push_cast<;>omega)|omega) only [go_sem]
 refine AXs.loop mixed (zh) (zf) (fun q:Nat=>[(40,.sl 0 0 2 1 (some 2)),(41,.int .i64 2),(42,.int .i64 i),(6,.fs (zI M) M.length),(7,.int .i64 j),(8,.int .i64 q)]) (fun _=>⟨[(0,.cells (zib L))],1⟩) (fun q=>q≤r.length∧∀ z,z<q→zu9 (r.getD z [])=true) (fun q=>r.length - q) 0 (by kernel_rfl) ⟨Nat.zero_le _,fun z hz=>by omega⟩ (Sub.of0 [(0,0)] rfl rfl ?_ ?_) ?_
 ·simp only [go_sem]
 ·simp only [go_sem]
 rintro q ⟨k8,k9⟩
 simp (disch:=first|assumption|(push_cast<;>omega)|omega) only [go_sem,at2]
 try (repeat refine sdC ?_)
 refine AXc.introP (fun k10=>?_) (fun k10=>?_)
 ·simp (disch:=first|assumption|(push_cast<;>omega)|omega) only [go_sem,at2]
  try (repeat refine sdC ?_)
  refine AXc.introP (fun k11=>?_) (fun k11=>?_)
  ·rw [hv,hrf (by unfold row8;rw [zf7 (i:=q) (by omega) (by unfold zu9;exact decide_eq_false (by omega)),Bool.and_false])]
   simp (disch:=first|assumption|(push_cast<;>omega)|omega) only [go_sem]
  ·simp (disch:=first|assumption|(push_cast<;>omega)|omega) only [go_sem]
   refine zk (q+1) ⟨by omega,fun z hz=>?_⟩ (by omega) (Sub.of0 [(0,0)] rfl rfl ?_ ?_)
   ·by_cases hzq:z<q
    ·exact k9 z hzq
    ·obtain rfl:z=q:=by omega
     unfold zu9;exact decide_eq_true (by omega)
   ·simp only [go_sem]
    simp
   ·simp only [go_sem]
 ·simp only [go_sem]
  refine AXa.go mixed (zh) (zf) (by kernel_rfl) ?_
  simp (disch:=first|assumption|(push_cast<;>omega)|omega) only [go_sem]
  refine zk (j+1) ⟨by omega,fun z hz=>?_⟩ (by omega) (Sub.of0 [(0,0)] rfl rfl ?_ ?_)
  ·by_cases hzq:z<j
   ·exact k5 z hzq
   ·obtain rfl:z=j:=by omega
    rw [hrr]
    unfold row8
    rw [decide_eq_true (by omega),zf6 fun q hq=>k9 q (by omega)];rfl
  ·simp only [go_sem]
   simp
  ·simp only [go_sem]
def cntS(s:Str):Nat:=s.countP (· ≠47)
theorem cntS_nil:cntS []=0:=rfl
theorem zx6(s:Str)(c:Nat)(hc:c<s.length):cntS (s.take (c+1))=cntS (s.take c)+if s.getD c 0=47 then 0 else 1:=by unfold cntS;rw [List.take_add_one,List.getElem?_eq_getElem hc,List.countP_append,List.getD_eq_getElem?_getD,List.getElem?_eq_getElem hc];show _+List.countP _ [s[c]]=_;rw [List.countP_cons,List.countP_nil];by_cases h:s[c]=47<;>simp [h]
theorem cntS_le(s:Str)(c:Nat):cntS (s.take c)≤c:=Nat.le_trans List.countP_le_length (by simp;omega)
def fewS(s:Str):Bool:=decide (cntS s≤4)
set_option maxHeartbeats 8000000 in
set_option maxRecDepth 100000 in
theorem short_ok(M:List (List Str))(h1:M.length≤1000000)(h2:∀ r∈M,r.length≤1000000)(h3:∀ r∈M,∀ s∈r,s.length≤1000000):PCall Tryz.prog 49 [.fs (zI M) M.length] (.ret (.bool (zcY M))):=by
 refine PCall.walk (rs:=[.tmp 2]) [0,2,3,4,5,6,10,19,31,43,47] [] mixed (zh) (zf) call49 Tryz.func49 rfl Tryz.ntmps49 rfl (by kernel_rfl) (by simp) (by simp [push_cast,zdj]) ?_;simp (disch:=first|assumption|(push_cast<;>omega)|omega) only [go_sem];refine AXs.loop mixed (zh) (zf) (fun i:Nat=>[(0,.fs (zI M) M.length),(3,.int .i64 i)]) (fun _=>⟨[],0⟩) (fun i=>i≤M.length∧∀ j,j<i→(nthR M j).all fewS=true) (fun i=>M.length - i) 0 (by kernel_rfl) ⟨Nat.zero_le _,fun j hj=>by omega⟩ (Sub.of0 [] rfl rfl ?_ ?_) ?_
 ·simp only [go_sem]
 ·simp only [go_sem]
 rintro i ⟨k1,k2⟩;simp only [go_sem];refine AXc.introP (fun k3=>?_) (fun k3=>?_);rotate_left
 ·obtain rfl:i=M.length:=by omega
  rw [show zcY M=true from rowR.all_t (p:=fun r:List Str=>r.all fewS) k2];simp only [go_sem];refine AXa.go mixed (zh) (zf) (by kernel_rfl) ?_;simp only [go_sem]
 have hi:i<M.length:=by omega
 have at2:=zcC M i hi;have hrf:(nthR M i).all fewS=false→zcY M=false:=fun h=>rowR.all_f (p:=fun r:List Str=>r.all fewS) hi h;have hmem:nthR M i∈M:=rowR.nth_mem hi;have hl2:=h2 _ hmem;have hl3:=h3 _ hmem;generalize hrr:nthR M i=r at at2 hrf hl2 hl3;simp (disch:=first|assumption|(push_cast<;>omega)|omega) only [go_sem];refine AXs.loop mixed (zh) (zf) (fun k:Nat=>[(0,.fs (zI M) M.length),(3,.int .i64 i),(4,.int .i64 k)]) (fun _=>⟨[],0⟩) (fun k=>k≤r.length∧∀ j,j<k→fewS (r.getD j [])=true) (fun k=>r.length - k) 0 (by kernel_rfl) ⟨Nat.zero_le _,fun j hj=>by omega⟩ (Sub.of0 [] rfl rfl ?_ ?_) ?_
 ·simp only [go_sem]
 ·simp only [go_sem]
 rintro k ⟨k4,k5⟩;simp (disch:=first|assumption|(push_cast<;>omega)|omega) only [go_sem,at2];try (repeat refine sdC ?_)
 refine AXc.introP (fun k6=>?_) (fun k6=>?_);rotate_left
 ·obtain rfl:k=r.length:=by omega
  simp only [go_sem];refine AXa.go mixed (zh) (zf) (by kernel_rfl) ?_;simp (disch:=first|assumption|(push_cast<;>omega)|omega) only [go_sem];refine zk (i+1) ⟨by omega,fun j hj=>?_⟩ (by omega) (Sub.of0 [] rfl rfl ?_ ?_)
  ·by_cases hji:j<i
   ·exact k2 j hji
   ·obtain rfl:j=i:=by omega
    rw [hrr];exact zf6 k5
  ·simp only [go_sem];simp
  ·simp only [go_sem]
 have hk:k<r.length:=by omega
 have hsm:r.getD k []∈r:=zcf hk;have hsl:=hl3 _ hsm;have hsf:fewS (r.getD k [])=false→zcY M=false:=fun h=>hrf (zf7 hk h);generalize hss:r.getD k []=s at hsl hsf;simp (disch:=first|assumption|(push_cast<;>omega)|omega) only [go_sem];refine AXs.loop mixed (zh) (zf) (fun c:Nat=>[(0,.fs (zI M) M.length),(3,.int .i64 i),(4,.int .i64 k),(5,.int .i64 (cntS (s.take c):Nat)),(6,.int .i64 c)]) (fun _=>⟨[],0⟩) (fun c=>c≤s.length) (fun c=>s.length - c) 0 (by kernel_rfl) (Nat.zero_le _) (Sub.of0 [] rfl rfl ?_ ?_) ?_
 ·simp only [go_sem,List.take_zero,cntS_nil]
 ·simp only [go_sem]
 intro c k7;simp (disch:=first|assumption|(push_cast<;>omega)|omega) only [go_sem,at2,hss];try (repeat refine sdC ?_)
 have hcl:=cntS_le s c;refine AXc.introP (fun k8=>?_) (fun k8=>?_)
 ·have hc:c<s.length:=by omega
  have hst:=zx6 s c hc;simp (disch:=first|assumption|(push_cast<;>omega)|omega) only [go_sem,at2,hss];try (repeat refine sdC ?_)
  have hde:decide (((s.getD c 0).toNat:Int)=47)=decide (s.getD c 0=47):=by refine decide_eq_decide.2 ⟨fun h=>?_,fun h=>by rw [h];rfl⟩;apply UInt8.toNat_inj.1;show _=47;omega
  rw [hde];refine AXc.introN (fun k9=>?_) (fun k9=>?_)
  ·rw [if_neg k9]at hst;simp (disch:=first|assumption|(push_cast<;>omega)|omega) only [go_sem];refine zk (c+1) (by omega) (by omega) (Sub.of0 [] rfl rfl ?_ ?_)
   ·rw [hst];simp only [go_sem];simp
   ·simp only [go_sem]
  ·rw [if_pos k9]at hst;simp (disch:=first|assumption|(push_cast<;>omega)|omega) only [go_sem];refine zk (c+1) (by omega) (by omega) (Sub.of0 [] rfl rfl ?_ ?_)
   ·rw [hst];simp only [go_sem];simp
   ·simp only [go_sem]
 ·obtain rfl:c=s.length:=by omega
  rw [List.take_length]at hcl ⊢;simp only [go_sem];refine AXa.go mixed (zh) (zf) (by kernel_rfl) ?_;simp (disch:=first|assumption|(push_cast<;>omega)|omega) only [go_sem];refine AXc.introP (fun k9=>?_) (fun k9=>?_)
  ·rw [hsf (by unfold fewS;exact decide_eq_false (by omega))];simp (disch:=first|assumption|(push_cast<;>omega)|omega) only [go_sem]
  ·simp (disch:=first|assumption|(push_cast<;>omega)|omega) only [go_sem];refine zk (k+1) ⟨by omega,fun j hj=>?_⟩ (by omega) (Sub.of0 [] rfl rfl ?_ ?_)
   ·by_cases hji:j<k
    ·exact k5 j hji
    ·obtain rfl:j=k:=by omega
     rw [hss];unfold fewS;exact decide_eq_true (by omega)
   ·simp only [go_sem];simp
   ·simp only [go_sem]
end Go.Proofs

namespace Go.Proofs
open Go.Ab Go.Cnt Go.Pl Go.Tg
noncomputable def cShort:List V→Option PR:=zB (fun M:List (List Str)=>[.fs (zI M) M.length]) (fun M=>M.length≤1000000∧(∀ r∈M,r.length≤1000000)∧∀ r∈M,∀ s∈r,s.length≤1000000) fun M=>.ret (.bool (zcY M))
theorem zmS(M:List (List Str))(h1:M.length≤1000000)(h2:∀ r∈M,r.length≤1000000)(h3:∀ r∈M,∀ s∈r,s.length≤1000000):cShort [.fs (zI M) M.length]=some (.ret (.bool (zcY M))):=
 zo (pat:=fun M:List (List Str)=>[.fs (zI M) M.length]) (fun x y h=>by simp at h;exact zb4 h.1) M ⟨h1,h2,h3⟩
theorem zyN:∀ args r,cShort args=some r→PCall Tryz.prog 49 args r:=zn fun M h=>short_ok M h.1 h.2.1 h.2.2
set_option maxHeartbeats 4000000 in
theorem zrQ(m:Mdl)(ws:List Str)(hf:Fit m)(hw:ws.length≤1000000):PCall Tryz.prog 25 [mdlV m,.fs (strs ws) ws.length] (.ret (.bool (zcV m ws))):=by
 have e1:=zmS m.next (Nat.le_trans hf.nl (by omega)) hf.nr hf.ns;have e2:=zmS m.emit (Nat.le_trans hf.el (by omega)) hf.er hf.es;have hb:(decide (3<(m.tags.length:Int))||decide (4<(ws.length:Int)))= !(decide (m.tags.length≤3)&&decide (ws.length≤4)):=by rw [Bool.eq_iff_iff];simp only [Bool.or_eq_true,Bool.not_eq_true',decide_eq_true_eq,Bool.and_eq_false_iff,decide_eq_false_iff_not];omega
 obtain⟨R,hR⟩:∃ R,R=zcV m ws:=⟨_,rfl⟩;rw [←hR];unfold zcV at hR;refine PCall.walk (rs:=[.tmp 4]) [0,1,2,4,13] [25] mixed (zg zyN zh) (zf) call25 Tryz.func25 rfl Tryz.ntmps25 rfl (by kernel_rfl) (by simp) (by simp [push_cast,zb1]) ?_;obtain⟨T,W,N,E⟩:=m;dsimp only at e1 e2 hb hR;simp (disch:=first|assumption|(push_cast<;>omega)|omega) only [go_sem,mdlV];rw [hb];cases hc:(decide (T.length≤3)&&decide (ws.length≤4))with
 |false=>
  rw [hc,Bool.false_and]at hR;rw [hR];simp (disch:=first|assumption|(push_cast<;>omega)|omega) only [go_sem]
 |true=>
  rw [hc,Bool.true_and]at hR;rw [hR];simp (disch:=first|assumption|(push_cast<;>omega)|omega) only [go_sem,e1,e2]
noncomputable def zqQ:List V→Option PR:=zB (fun p:Mdl×List Str=>[mdlV p.1,.fs (strs p.2) p.2.length]) (fun p=>Fit p.1∧p.2.length≤1000000) fun p=>.ret (.bool (zcV p.1 p.2))
theorem zp9(x y:Mdl×List Str)(h:[mdlV x.1,V.fs (strs x.2) x.2.length]=[mdlV y.1,V.fs (strs y.2) y.2.length]):x=y:=by simp only [List.cons.injEq,V.fs.injEq,and_true]at h;exact Prod.ext (zeg h.1) (zas h.2.1)
theorem zo9(m:Mdl)(ws:List Str)(hf:Fit m)(hw:ws.length≤1000000):zqQ [mdlV m,.fs (strs ws) ws.length]=some (.ret (.bool (zcV m ws))):=
 zo (pat:=fun p:Mdl×List Str=>[mdlV p.1,.fs (strs p.2) p.2.length]) zp9 (m,ws) ⟨hf,hw⟩
theorem zo8:∀ args r,zqQ args=some r→PCall Tryz.prog 25 args r:=zn fun p h=>zrQ p.1 p.2 h.1 h.2
def zic(e f:Int)(m:Mdl)(ws:List Str):Bool:=(decide (e=2)||decide (f=2))&& !zcV m ws
set_option maxHeartbeats 4000000 in
theorem zwP(e f:Int)(m:Mdl)(ws:List Str)(hf:Fit m)(hw:ws.length≤1000000):PCall Tryz.prog 18 [.int .i64 e,.int .i64 f,mdlV m,.fs (strs ws) ws.length] (.ret (.bool (zic e f m ws))):=by
 have e1:=zo9 m ws hf hw;obtain⟨R,hR⟩:∃ R,R=zic e f m ws:=⟨_,rfl⟩;rw [←hR];unfold zic at hR;rw [hR];refine PCall.walk (rs:=[.tmp 8]) [0,1,2,3,6,8] [25] mixed (zg zo8 zh) (zf) call18 Tryz.func18 rfl Tryz.ntmps18 rfl (by kernel_rfl) (by simp) (by simp [push_cast,zb1]) ?_;generalize zcV m ws=sb at e1;obtain⟨T,W,N,E⟩:=m;unfold mdlV at e1 ⊢;dsimp only at e1 ⊢;simp (disch:=first|assumption|(push_cast<;>omega)|omega) only [go_sem,e1]
noncomputable def zzw:List V→Option PR:=zB (fun p:Int×Int×Mdl×List Str=>[.int .i64 p.1,.int .i64 p.2.1,mdlV p.2.2.1,.fs (strs p.2.2.2) p.2.2.2.length]) (fun p=>Fit p.2.2.1∧p.2.2.2.length≤1000000) fun p=>.ret (.bool (zic p.1 p.2.1 p.2.2.1 p.2.2.2))
theorem zug(e f:Int)(m:Mdl)(ws:List Str)(hf:Fit m)(hw:ws.length≤1000000):zzw [.int .i64 e,.int .i64 f,mdlV m,.fs (strs ws) ws.length]=some (.ret (.bool (zic e f m ws))):=
 zo (pat:=fun p:Int×Int×Mdl×List Str=>[.int .i64 p.1,.int .i64 p.2.1,mdlV p.2.2.1,.fs (strs p.2.2.2) p.2.2.2.length]) (fun x y h=>by simp only [List.cons.injEq,V.fs.injEq,V.int.injEq,and_true,true_and]at h;exact Prod.ext h.1 (Prod.ext h.2.1 (Prod.ext (zeg h.2.2.1) (zas h.2.2.2.1)))) (e,f,m,ws) ⟨hf,hw⟩
theorem zuf:∀ args r,zzw args=some r→PCall Tryz.prog 18 args r:=zn fun p h=>zwP p.1 p.2.1 p.2.2.1 p.2.2.2 h.1 h.2
structure InM(m:Mdl)(u:List Str):Prop where
 tl:m.tags.length≤1000000000000000
 wl:m.words.length≤1000000000000000
 nl:m.next.length≤1000000000000000
 el:m.emit.length≤1000000000000000
 ts:∀ s∈m.tags,s.length≤1000000000000000
 ws:∀ s∈m.words,s.length≤1000000000000000
 l:u.length≤1000000000000000
 s:∀ s∈u,s.length≤1000000000000000
theorem zqu {M:List (List Str)}(h:∀ r∈M,∀ s∈r,s.length≤12)(i j:Nat):((nthR M i).getD j []).length≤1000000000:=by
 by_cases hi:i<M.length
 ·by_cases hj:j<(nthR M i).length
  ·exact Nat.le_trans (h _ (rowR.nth_mem hi) _ (zcf hj)) (by omega)
  ·rw [List.getD_eq_getElem?_getD,List.getElem?_eq_none (by omega)];simp
 ·have:nthR M i=[]:=by
   show M.getD i []=[]
   rw [List.getD_eq_getElem?_getD,List.getElem?_eq_none (by omega)];rfl
  rw [this];simp
theorem fitB_fit {m:Mdl}{ws:List Str}(hi:InM m ws)(h:fitB m ws=true):Fit m∧ws.length≤4∧∀ i j,(nx m i j).length≤1000000000∧(em m i j).length≤1000000000:=by
 unfold fitB at h;simp only [Bool.and_eq_true,decide_eq_true_eq,List.all_cons,List.all_nil,and_true]at h;obtain⟨hsz,hn,he⟩:=h;unfold ziD at hsz;obtain⟨s1,s2,s3,s4,s5⟩:=hsz;have key:∀ {M:List (List Str)},mat8 M=true→(∀ r∈M,r.length≤8)∧∀ r∈M,∀ s∈r,s.length≤12:=fun {M} h=>by unfold mat8 row8 at h;simp only [List.all_eq_true,Bool.and_eq_true,decide_eq_true_eq]at h;refine⟨fun r hr=>(h r hr).1,fun r hr s hs=>?_⟩;have:=(h r hr).2 s hs;unfold zu9 at this;exact of_decide_eq_true this
 obtain⟨n1,n2⟩:=key hn;obtain⟨e1,e2⟩:=key he;refine⟨⟨by omega,by omega,by omega,by omega,hi.ts,hi.ws,fun r hr=>Nat.le_trans (n1 r hr) (by omega),fun r hr=>Nat.le_trans (e1 r hr) (by omega),fun r hr s hs=>Nat.le_trans (n2 r hr s hs) (by omega),fun r hr s hs=>Nat.le_trans (e2 r hr s hs) (by omega)⟩,s5,fun i j=>⟨zqu n2 i j,zqu e2 i j⟩⟩
noncomputable def zyM:List V→Option PR:=zB (fun p:Mdl×List Str=>[mdlV p.1,.fs (strs p.2) p.2.length]) (fun p=>InM p.1 p.2) fun p=>.ret (.bool (!fitB p.1 p.2))
theorem ztV(m:Mdl)(ws:List Str)(h:InM m ws):zyM [mdlV m,.fs (strs ws) ws.length]=some (.ret (.bool (!fitB m ws))):=
 zo (pat:=fun p:Mdl×List Str=>[mdlV p.1,.fs (strs p.2) p.2.length]) zp9 (m,ws) h
theorem ztU:∀ args r,zyM args=some r→PCall Tryz.prog 16 args r:=zn fun p h=>zuU p.1 p.2 h.tl h.wl h.nl h.el h.l
noncomputable def cTAwk:List V→Option PR:=zB (fun _:Unit=>[]) (fun _=>True) fun _=>.ret (.bool true)
@[go_sem] theorem cTAwk_eq:cTAwk []=some (.ret (.bool true)):=zo (pat:=fun _:Unit=>([]:List V)) (fun _ _ _=>rfl) () trivial
theorem cTAwk_ok:∀ args r,cTAwk args=some r→PCall Tryz.prog 15 args r:=zn fun _ _=>zur
end Go.Proofs

namespace Go.Proofs
open Go.Ab Go.Cnt Go.Pl
theorem dStr:Dec Tryz.prog 9 strR (fun s=>s.length≤reachBytes):=Dec.str Tryz.underlying9 (by kernel_rfl)
def okS(l:List Str):Prop:=l.length≤reachBytes∧∀ s∈l,s.length≤reachBytes
theorem dStrs:Dec Tryz.prog 22 (slR strR) okS:=dStr.slice Tryz.underlying22 (by kernel_rfl) (of_decide_eq_true (by kernel_rfl))
theorem dRows:Dec Tryz.prog 23 (slR (slR strR)) (fun l=>l.length≤reachBytes):=(dStrs.slice Tryz.underlying23 (by kernel_rfl) (of_decide_eq_true (by kernel_rfl))).cast (fun a=>a) rfl (fun _=>rfl) fun _ h=>h.1
abbrev MdlT:=((List Str×List Str)×List (List Str))×List (List Str)
def okM(p:MdlT):Prop:=((okS p.1.1.1∧okS p.1.1.2)∧p.1.2.length≤reachBytes)∧p.2.length≤reachBytes
abbrev mdlR:=zj5 (zj5 (zj5 (slR strR) (slR strR)) (slR (slR strR))) (slR (slR strR))
theorem dMdl:Dec Tryz.prog 25 mdlR okM:=Dec.four Tryz.underlying25 dStrs dStrs dRows dRows rfl rfl rfl rfl (by kernel_rfl)
theorem zcD {n:Nat}(h:n≤reachBytes):n≤1000000000000000:=Nat.le_trans h (by unfold reachBytes;omega)
def mdlOf(p:MdlT):Mdl:=⟨p.1.1.1,p.1.1.2,p.1.2,p.2⟩
theorem mdl_enc(p:MdlT):V.agg (mdlR.enc p)=mdlV (mdlOf p):=by obtain⟨⟨⟨T,W⟩,N⟩,E⟩:=p;show V.agg ((([V.fs (strR.cells T) T.length]++[V.fs (strR.cells W) W.length])++[V.fs ((slR strR).cells N) N.length])++[V.fs ((slR strR).cells E) E.length])=_;rw [zd9,zd9,zvv,zvv];rfl
theorem inM_of {p:MdlT}{w:List Str}(h:okM p)(hw:okS w):InM (mdlOf p) w:=
 ⟨zcD h.1.1.1.1,zcD h.1.1.2.1,zcD h.1.2,zcD h.2,fun s hs=>zcD (h.1.1.1.2 s hs),fun s hs=>zcD (h.1.1.2.2 s hs),zcD hw.1,fun s hs=>zcD (hw.2 s hs)⟩
end Go.Proofs

namespace Go.Ab
def TellF(C:Cfg)(s s':St):Prop:=Sub C s s'∨∃ s1,(C.Wm=[]∧∃ F,Fz2 C.nx F s s1)∧Sub C s1 s'
theorem AX.loopF {C:Cfg}{P:Program}{K:Out→St→Prop}{s:St}{x:Code}{ι:Type}(inv:ι→St)(p:ι→Prop)(m:ι→Nat)(i0:ι)(h0:p i0)(hs:Sub C s (inv i0))
 (h:∀ i,p i→AX C P x (inv i) (zfo (fun s'=>∃ j,p j∧m j<m i∧TellF C s' (inv j)) K)):AX C P (.loop x) s K:=fun base D g0 H0 w0 g a w he r=>by
 obtain⟨g1,r1⟩:=r.sub he hs
 let I:Nat→Act→World→Prop:=fun n a w=>∃ i g,p i∧m i=n∧Rel C base D g0 H0 w0 g (inv i) a w
 have key:∀ n a w,I n a w→(Code.loop x).wp P (Aft C base D g0 H0 w0 K) a w:=by
  intro n a w hI;classical
  refine wp_loop (fun a w=>∃ n,I n a w) (fun a w=>if h:∃ n,I n a w then Classical.choose (least (fun n=>I n a w) h)else 0) ⟨n,hI⟩ ?_;intro a w hE;have hf:=(Classical.choose_spec (least (fun n=>I n a w) hE)).1;obtain⟨i,g,hp,hmi,hr⟩:=hf;refine wp_mono (h i hp base D g0 H0 w0 g a w he hr) fun e a' w' ⟨o,s,g,h1,h2,h3⟩=>?_;cases o<;>cases e<;>first|exact h2.elim|skip
  ·obtain⟨j,hpj,hlt,hsub⟩:=h1;have hr:∃ g',Rel C base D g0 H0 w0 g' (inv j) a' w':=by
    rcases hsub with hsub|⟨s1,⟨hW,F,hz⟩,hsub⟩
    ·exact h3.sub he hsub
    ·obtain⟨g2,r2⟩:=h3.freeze2 he hW hz;exact r2.sub he hsub
   obtain⟨g',r'⟩:=hr;have hj:I (m j) a' w':=⟨j,g',hpj,rfl,r'⟩;refine⟨⟨_,hj⟩,?_⟩;rw [dif_pos ⟨_,hj⟩,dif_pos hE];have:=(Classical.choose_spec (least (fun n=>I n a' w') ⟨_,hj⟩)).2 _ hj;omega
  ·exact⟨_,s,g,h1,h2,h3⟩
  ·exact⟨_,s,g,h1,h2,h3⟩
  ·exact⟨_,s,g,h1,h2,h3⟩
 exact key _ a w ⟨i0,g1,h0,rfl,r1⟩
def LoopF(C:Cfg)(ι:Type)(inv:ι→St)(p:ι→Prop)(m:ι→Nat)(i:ι)(K:Out→St→Prop):Out→St→Prop:=zfo (fun s'=>∃ j,p j∧m j<m i∧TellF C s' (inv j)) K
theorem AXs.loopF {C:Cfg}{P:Program}{K:Out→St→Prop}{st:List Fr}{env:Env}{h:Hp}(hm:P.follows .mixedOrders=true)(hΓ:zcQ P C.Γ)(hΔ:za5 P C.Δ){x:Code}{ι:Type}(ienv:ι→Env)(ih:ι→Hp)(p:ι→Prop)(m:ι→Nat)(i0:ι)
 (hc:zar C.nt x=true) (h0:p i0) (hs:Sub C ⟨env,h⟩ ⟨ienv i0,ih i0⟩)
 (hb:∀ i,p i→AXs C P (LoopF C ι (fun i=>⟨ienv i,ih i⟩) p m i (unst C P K st)) [] x (ienv i) (ih i)):AXs C P K st (.loop x) env h:=
 AX.loopF (fun i=>⟨ienv i,ih i⟩) p m i0 h0 hs fun i hp=>zcA hm ⟨hΓ,hΔ⟩ x ⟨ienv i,ih i⟩ _ hc (hb i hp)
theorem zgw {C:Cfg}{ι:Type}{inv:ι→St}{p:ι→Prop}{m:ι→Nat}{i:ι}{K:Out→St→Prop}{env env':Env}{bs:List (Nat×Blk)}{n n':Nat}(j:ι)(h1:p j)(h2:m j<m i)(fl:List Nat)(bs':List (Nat×List V))(hW:C.Wm=[])(h0:C.nx=0)(hl:(fl.all fun b=>(zaH bs b).isSome)=true)
 (he:fzE (· ∈fl) n' ⟨bs,n⟩ env env') (hh:fzC ⟨bs,n⟩ (· ∈fl) n' bs bs') (h3:Sub C ⟨env',⟨zyp bs',n'⟩⟩ (inv j)):LoopF C ι inv p m i K .norm ⟨env,⟨bs,n⟩⟩:=by
 refine⟨j,h1,h2,.inr ⟨⟨env',⟨zyp bs',n'⟩⟩,⟨hW,(· ∈fl),zqv he,fun b x' e=>?_,fun b hb=>⟨by omega,?_⟩,fun b hb=>by omega,by rw [h0];exact Nat.zero_le _⟩,h3⟩⟩
 ·obtain⟨h1,h2,x,h3,h4⟩:=zxz hh b x' e
  exact⟨h1,h2,x,by rw [zbj];exact h3,h4⟩
 ·have:=List.all_eq_true.1 hl b hb
  rw [Option.isSome_iff_exists]at this
  rw [zbj];exact this
theorem zwM {C:Cfg}{P:Program}{ι:Type}{inv:ι→St}{p:ι→Prop}{m:ι→Nat}{i:ι}{K:Out→St→Prop}{st:List Fr}(env:Env)(h:Hp):LoopF C ι inv p m i (unst C P K st) .ret ⟨env,h⟩=AXs C P K st .ret env h:=rfl
theorem zsw {C:Cfg}{P:Program}{ι:Type}{inv:ι→St}{p:ι→Prop}{m:ι→Nat}{i:ι}{K:Out→St→Prop}{st:List Fr}(k:Nat)(env:Env)(h:Hp):LoopF C ι inv p m i (unst C P K st) (.exit k) ⟨env,h⟩=AXs C P K st (.exit k) env h:=rfl
attribute [go_sem] zwM zsw
theorem zei {H:Hp}{F:Nat→Prop}{n:Nat}:∀ {l:List V},(∀ x∈l,Pure x)→lFz H F n l l
 |[],_=>trivial
 |x::l,h=>⟨.inl (.same (h x (by simp))),zei fun y hy=>h y (by simp [hy])⟩
theorem ziZ {H:Hp}{F:Nat→Prop}{n:Nat}:∀ {a a' b b':List V},lFz H F n a a'→lFz H F n b b'→lFz H F n (a++b) (a'++b')
 |[],[],_,_,_,h=>h
 |x::a,y::a',_,_,⟨h1,h2⟩,h=>⟨h1,ziZ h2 h⟩
 |[],_::_,_,_,h,_=>h.elim
 |_::_,[],_,_,h,_=>h.elim
end Go.Ab
