/- What the statements of chapter 36 ask ahead: large, long, Small. -/
import Derived.Test.YthbimeikbkjnkaaGreatDoorT5
import Derived.Test.YthbimeikbkjnkaaGreatDoorTT1
import Derived.Test.YthbimeikbkjnkaaGreatDoorAbFreeze3
import Derived.Test.YthbimeikbkjnkaaGreatDoorAbCall
import Derived.Test.YthbimeikbkjnkaaGreatDoorVM4
import Derived.Test.YthbimeikbkjnkaaGreatDoorTgLaw
import Derived.Test.YthbimeikbkjnkaaGreatDoorAbRules
set_option linter.all false
namespace Go.Proofs
open Go.Ab Go.Cnt Go.Pl Go.Tg
def zuS(s:Str):Bool:=decide (s.length≤12)
def row8(r:List Str):Bool:=decide (r.length≤8)&&r.all zuS
def mat8(m:List (List Str)):Bool:=m.all row8
def ziG(m:Mdl)(ws:List Str):Prop:=m.tags.length≤3∧m.words.length≤6∧m.next.length≤5∧m.emit.length≤5∧ws.length≤4
instance (m:Mdl) (ws:List Str):Decidable (ziG m ws):=inferInstanceAs (Decidable (_∧_))
def fitB(m:Mdl)(ws:List Str):Bool:=decide (ziG m ws)&&[m.next,m.emit].all mat8
theorem matR_nth(L:List (List (List Str)))(i:Nat)(h:i<L.length):nthV (zid L) i=.fs (zJ (nthM L i)) (nthM L i).length:=by have:=matsC_at L i h;rw [←zke,this];rfl
set_option maxHeartbeats 8000000 in
set_option maxRecDepth 100000 in
theorem zuF(m:Mdl)(ws:List Str)(h1:m.tags.length≤1000000000000000)(h2:m.words.length≤1000000000000000)(h3:m.next.length≤1000000000000000)(h4:m.emit.length≤1000000000000000)(h5:ws.length≤1000000000000000):
 PCall Tryz.prog 16 [mdlV m,.fs (strs ws) ws.length] (.ret (.bool (!fitB m ws))):=by
 obtain⟨T,W,N,E⟩:=m
 dsimp only at h1 h2 h3 h4
 refine PCall.walk (rs:=[.tmp 4]) [0,1,2,4,6,7,8,35,40,41,42,43,49,57,64,75] [25] mixed (zh) (zg) call16 Tryz.func16 rfl Tryz.ntmps16 rfl (by kernel_rfl) (by simp) (by simp [push_cast,zbZ]) ?_
 have hb:(decide (3<(T.length:Int))||decide (6<(W.length:Int))||decide (5<(N.length:Int))||decide (5<(E.length:Int))||decide (4<(ws.length:Int)))= !decide (ziG ⟨T,W,N,E⟩ ws):=by rw [Bool.eq_iff_iff];simp only [Bool.or_eq_true,Bool.not_eq_true',decide_eq_true_eq,decide_eq_false_iff_not];unfold ziG;dsimp only;omega
 obtain⟨R,hR⟩:∃ R,R=fitB ⟨T,W,N,E⟩ ws:=⟨_,rfl⟩
 rw [←hR]
 by_cases hs:ziG ⟨T,W,N,E⟩ ws
 case neg=>
  have hv:R=false:=by rw [hR];unfold fitB;rw [decide_eq_false hs];rfl
  rw [hv]
  simp (disch:=first|assumption|(push_cast<;>omega)|omega) only [go_sem,mdlV]
  rw [hb,decide_eq_false hs]
  simp (disch:=first|assumption|(push_cast<;>omega)|omega) only [go_sem]
 have hv:R=[N,E].all mat8:=by rw [hR];unfold fitB;rw [decide_eq_true hs];rfl
 simp (disch:=first|assumption|(push_cast<;>omega)|omega) only [go_sem,mdlV]
 rw [hb,decide_eq_true hs]
 simp (disch:=first|assumption|(push_cast<;>omega)|omega) only [go_sem]
 obtain⟨s1,s2,s3,s4,s5⟩:=hs
 dsimp only at s1 s2 s3 s4 s5
 obtain⟨L,hL⟩:∃ L,L=[N,E]:=⟨_,rfl⟩
 have hLl:L.length=2:=by rw [hL];rfl
 have hlen:∀ i,i<2→(nthM L i).length≤5:=fun i hi=>by
  rw [hL];match i,hi with
  |0,_=>exact s3
  |1,_=>exact s4
 have hcells:[V.fs (zJ N) N.length,V.fs (zJ E) E.length]=zid L:=by rw [hL];rfl
 rw [hcells]
 rw [←hL]at hv
 clear hcells hL hR
 refine AXs.loop mixed (zh) (zg) (fun i:Nat=>[(40,.sl 0 0 2 1 (some 2)),(41,.int .i64 2),(42,.int .i64 i)]) (fun _=>⟨[(0,.cells (zid L))],1⟩) (fun i=>i≤2∧∀ j,j<i→mat8 (nthM L j)=true) (fun i=>2 - i) 0 (by kernel_rfl) ⟨Nat.zero_le _,fun j hj=>by omega⟩ (Sub.of0 [(0,0)] rfl rfl ?_ ?_) ?_
 ·simp only [go_sem]
 ·simp only [go_sem]
 rintro i ⟨k1,k2⟩
 simp only [go_sem]
 refine AXc.introP (fun k3=>?_) (fun k3=>?_)
 rotate_left
 ·obtain rfl:i=2:=by omega
  rw [hv,show L.all mat8=true from matR.all_t (p:=mat8) fun i hi=>k2 i (by omega)]
  simp only [go_sem]
  refine AXa.go mixed (zh) (zg) (by kernel_rfl) ?_
  simp only [go_sem]
 have hi:i<2:=by omega
 have at1:=matR_nth L i (by omega)
 have hm5:=hlen i hi
 have hmf:mat8 (nthM L i)=false→L.all mat8=false:=fun h=>matR.all_f (p:=mat8) (i:=i) (by omega) h
 generalize hM:nthM L i=M at at1 hm5 hmf
 simp (disch:=first|assumption|(push_cast<;>omega)|omega) only [go_sem,at1,hLl]
 try (repeat refine sdC ?_)
 refine AXs.loop mixed (zh) (zg) (fun j:Nat=>[(40,.sl 0 0 2 1 (some 2)),(41,.int .i64 2),(42,.int .i64 i),(6,.fs (zJ M) M.length),(7,.int .i64 j)]) (fun _=>⟨[(0,.cells (zid L))],1⟩) (fun j=>j≤M.length∧∀ q,q<j→row8 (nthR M q)=true) (fun j=>M.length - j) 0 (by kernel_rfl) ⟨Nat.zero_le _,fun q hq=>by omega⟩ (Sub.of0 [(0,0)] rfl rfl ?_ ?_) ?_
 ·simp only [go_sem]
 ·simp only [go_sem]
 rintro j ⟨k4,k5⟩
 simp only [go_sem]
 refine AXc.introP (fun k6=>?_) (fun k6=>?_)
 rotate_left
 ·obtain rfl:j=M.length:=by omega
  simp only [go_sem]
  refine AXa.go mixed (zh) (zg) (by kernel_rfl) ?_
  simp (disch:=first|assumption|(push_cast<;>omega)|omega) only [go_sem]
  refine zk (i+1) ⟨by omega,fun q hq=>?_⟩ (by omega) (Sub.of0 [(0,0)] rfl rfl ?_ ?_)
  ·by_cases hqi:q<i
   ·exact k2 q hqi
   ·obtain rfl:q=i:=by omega
    rw [hM]
    exact rowR.all_t (p:=row8) k5
  ·simp only [go_sem]
   simp
  ·simp only [go_sem]
 have hj:j<M.length:=by omega
 have at2:=zcF M j hj
 have hrf:row8 (nthR M j)=false→L.all mat8=false:=fun h=>hmf (rowR.all_f (p:=row8) hj h)
 generalize hrr:nthR M j=r at at2 hrf
 simp (disch:=first|assumption|(push_cast<;>omega)|omega) only [go_sem,at2]
 try (repeat refine sdC ?_)
 refine AXc.introP (fun k7=>?_) (fun k7=>?_)
 ·rw [hv,hrf (by unfold row8;rw [decide_eq_false (by omega)];rfl)]
  simp (disch:=first|assumption|(push_cast<;>omega)|omega) only [go_sem]
 simp (disch:=first|assumption|(push_cast<;>omega)|omega) only [go_sem]
 refine AXs.loop mixed (zh) (zg) (fun q:Nat=>[(40,.sl 0 0 2 1 (some 2)),(41,.int .i64 2),(42,.int .i64 i),(6,.fs (zJ M) M.length),(7,.int .i64 j),(8,.int .i64 q)]) (fun _=>⟨[(0,.cells (zid L))],1⟩) (fun q=>q≤r.length∧∀ z,z<q→zuS (r.getD z [])=true) (fun q=>r.length - q) 0 (by kernel_rfl) ⟨Nat.zero_le _,fun z hz=>by omega⟩ (Sub.of0 [(0,0)] rfl rfl ?_ ?_) ?_
 ·simp only [go_sem]
 ·simp only [go_sem]
 rintro q ⟨k8,k9⟩
 simp (disch:=first|assumption|(push_cast<;>omega)|omega) only [go_sem,at2]
 try (repeat refine sdC ?_)
 refine AXc.introP (fun k10=>?_) (fun k10=>?_)
 ·simp (disch:=first|assumption|(push_cast<;>omega)|omega) only [go_sem,at2]
  try (repeat refine sdC ?_)
  refine AXc.introP (fun k11=>?_) (fun k11=>?_)
  ·rw [hv,hrf (by unfold row8;rw [zf8 (i:=q) (by omega) (by unfold zuS;exact decide_eq_false (by omega)),Bool.and_false])]
   simp (disch:=first|assumption|(push_cast<;>omega)|omega) only [go_sem]
  ·simp (disch:=first|assumption|(push_cast<;>omega)|omega) only [go_sem]
   refine zk (q+1) ⟨by omega,fun z hz=>?_⟩ (by omega) (Sub.of0 [(0,0)] rfl rfl ?_ ?_)
   ·by_cases hzq:z<q
    ·exact k9 z hzq
    ·obtain rfl:z=q:=by omega
     unfold zuS;exact decide_eq_true (by omega)
   ·simp only [go_sem]
    simp
   ·simp only [go_sem]
 ·simp only [go_sem]
  refine AXa.go mixed (zh) (zg) (by kernel_rfl) ?_
  simp (disch:=first|assumption|(push_cast<;>omega)|omega) only [go_sem]
  refine zk (j+1) ⟨by omega,fun z hz=>?_⟩ (by omega) (Sub.of0 [(0,0)] rfl rfl ?_ ?_)
  ·by_cases hzq:z<j
   ·exact k5 z hzq
   ·obtain rfl:z=j:=by omega
    rw [hrr]
    unfold row8
    rw [decide_eq_true (by omega),zf7 fun q hq=>k9 q (by omega)];rfl
  ·simp only [go_sem]
   simp
  ·simp only [go_sem]
def cntS(s:Str):Nat:=s.countP (· ≠47)
theorem cntS_nil:cntS []=0:=rfl
theorem zxR(s:Str)(c:Nat)(hc:c<s.length):cntS (s.take (c+1))=cntS (s.take c)+if s.getD c 0=47 then 0 else 1:=by unfold cntS;rw [List.take_add_one,List.getElem?_eq_getElem hc,List.countP_append,List.getD_eq_getElem?_getD,List.getElem?_eq_getElem hc];show _+List.countP _ [s[c]]=_;rw [List.countP_cons,List.countP_nil];by_cases h:s[c]=47<;>simp [h]
theorem cntS_le(s:Str)(c:Nat):cntS (s.take c)≤c:=Nat.le_trans List.countP_le_length (by simp;omega)
def fewS(s:Str):Bool:=decide (cntS s≤4)
set_option maxHeartbeats 8000000 in
set_option maxRecDepth 100000 in
theorem short_ok(M:List (List Str))(h1:M.length≤1000000)(h2:∀ r∈M,r.length≤1000000)(h3:∀ r∈M,∀ s∈r,s.length≤1000000):PCall Tryz.prog 49 [.fs (zJ M) M.length] (.ret (.bool (zcY M))):=by
 refine PCall.walk (rs:=[.tmp 2]) [0,2,3,4,5,6,10,19,31,43,47] [] mixed (zh) (zg) call49 Tryz.func49 rfl Tryz.ntmps49 rfl (by kernel_rfl) (by simp) (by simp [push_cast,zdh]) ?_;simp (disch:=first|assumption|(push_cast<;>omega)|omega) only [go_sem];refine AXs.loop mixed (zh) (zg) (fun i:Nat=>[(0,.fs (zJ M) M.length),(3,.int .i64 i)]) (fun _=>⟨[],0⟩) (fun i=>i≤M.length∧∀ j,j<i→(nthR M j).all fewS=true) (fun i=>M.length - i) 0 (by kernel_rfl) ⟨Nat.zero_le _,fun j hj=>by omega⟩ (Sub.of0 [] rfl rfl ?_ ?_) ?_
 ·simp only [go_sem]
 ·simp only [go_sem]
 rintro i ⟨k1,k2⟩;simp only [go_sem];refine AXc.introP (fun k3=>?_) (fun k3=>?_);rotate_left
 ·obtain rfl:i=M.length:=by omega
  rw [show zcY M=true from rowR.all_t (p:=fun r:List Str=>r.all fewS) k2];simp only [go_sem];refine AXa.go mixed (zh) (zg) (by kernel_rfl) ?_;simp only [go_sem]
 have hi:i<M.length:=by omega
 have at2:=zcF M i hi;have hrf:(nthR M i).all fewS=false→zcY M=false:=fun h=>rowR.all_f (p:=fun r:List Str=>r.all fewS) hi h;have hmem:nthR M i∈M:=rowR.nth_mem hi;have hl2:=h2 _ hmem;have hl3:=h3 _ hmem;generalize hrr:nthR M i=r at at2 hrf hl2 hl3;simp (disch:=first|assumption|(push_cast<;>omega)|omega) only [go_sem];refine AXs.loop mixed (zh) (zg) (fun k:Nat=>[(0,.fs (zJ M) M.length),(3,.int .i64 i),(4,.int .i64 k)]) (fun _=>⟨[],0⟩) (fun k=>k≤r.length∧∀ j,j<k→fewS (r.getD j [])=true) (fun k=>r.length - k) 0 (by kernel_rfl) ⟨Nat.zero_le _,fun j hj=>by omega⟩ (Sub.of0 [] rfl rfl ?_ ?_) ?_
 ·simp only [go_sem]
 ·simp only [go_sem]
 rintro k ⟨k4,k5⟩;simp (disch:=first|assumption|(push_cast<;>omega)|omega) only [go_sem,at2];try (repeat refine sdC ?_)
 refine AXc.introP (fun k6=>?_) (fun k6=>?_);rotate_left
 ·obtain rfl:k=r.length:=by omega
  simp only [go_sem];refine AXa.go mixed (zh) (zg) (by kernel_rfl) ?_;simp (disch:=first|assumption|(push_cast<;>omega)|omega) only [go_sem];refine zk (i+1) ⟨by omega,fun j hj=>?_⟩ (by omega) (Sub.of0 [] rfl rfl ?_ ?_)
  ·by_cases hji:j<i
   ·exact k2 j hji
   ·obtain rfl:j=i:=by omega
    rw [hrr];exact zf7 k5
  ·simp only [go_sem];simp
  ·simp only [go_sem]
 have hk:k<r.length:=by omega
 have hsm:r.getD k []∈r:=zch hk;have hsl:=hl3 _ hsm;have hsf:fewS (r.getD k [])=false→zcY M=false:=fun h=>hrf (zf8 hk h);generalize hss:r.getD k []=s at hsl hsf;simp (disch:=first|assumption|(push_cast<;>omega)|omega) only [go_sem];refine AXs.loop mixed (zh) (zg) (fun c:Nat=>[(0,.fs (zJ M) M.length),(3,.int .i64 i),(4,.int .i64 k),(5,.int .i64 (cntS (s.take c):Nat)),(6,.int .i64 c)]) (fun _=>⟨[],0⟩) (fun c=>c≤s.length) (fun c=>s.length - c) 0 (by kernel_rfl) (Nat.zero_le _) (Sub.of0 [] rfl rfl ?_ ?_) ?_
 ·simp only [go_sem,List.take_zero,cntS_nil]
 ·simp only [go_sem]
 intro c k7;simp (disch:=first|assumption|(push_cast<;>omega)|omega) only [go_sem,at2,hss];try (repeat refine sdC ?_)
 have hcl:=cntS_le s c;refine AXc.introP (fun k8=>?_) (fun k8=>?_)
 ·have hc:c<s.length:=by omega
  have hst:=zxR s c hc;simp (disch:=first|assumption|(push_cast<;>omega)|omega) only [go_sem,at2,hss];try (repeat refine sdC ?_)
  have hde:decide (((s.getD c 0).toNat:Int)=47)=decide (s.getD c 0=47):=by refine decide_eq_decide.2 ⟨fun h=>?_,fun h=>by rw [h];rfl⟩;apply UInt8.toNat_inj.1;show _=47;omega
  rw [hde];refine AXc.introN (fun k9=>?_) (fun k9=>?_)
  ·rw [if_neg k9]at hst;simp (disch:=first|assumption|(push_cast<;>omega)|omega) only [go_sem];refine zk (c+1) (by omega) (by omega) (Sub.of0 [] rfl rfl ?_ ?_)
   ·rw [hst];simp only [go_sem];simp
   ·simp only [go_sem]
  ·rw [if_pos k9]at hst;simp (disch:=first|assumption|(push_cast<;>omega)|omega) only [go_sem];refine zk (c+1) (by omega) (by omega) (Sub.of0 [] rfl rfl ?_ ?_)
   ·rw [hst];simp only [go_sem];simp
   ·simp only [go_sem]
 ·obtain rfl:c=s.length:=by omega
  rw [List.take_length]at hcl ⊢;simp only [go_sem];refine AXa.go mixed (zh) (zg) (by kernel_rfl) ?_;simp (disch:=first|assumption|(push_cast<;>omega)|omega) only [go_sem];refine AXc.introP (fun k9=>?_) (fun k9=>?_)
  ·rw [hsf (by unfold fewS;exact decide_eq_false (by omega))];simp (disch:=first|assumption|(push_cast<;>omega)|omega) only [go_sem]
  ·simp (disch:=first|assumption|(push_cast<;>omega)|omega) only [go_sem];refine zk (k+1) ⟨by omega,fun j hj=>?_⟩ (by omega) (Sub.of0 [] rfl rfl ?_ ?_)
   ·by_cases hji:j<k
    ·exact k5 j hji
    ·obtain rfl:j=k:=by omega
     rw [hss];unfold fewS;exact decide_eq_true (by omega)
   ·simp only [go_sem];simp
   ·simp only [go_sem]
end Go.Proofs

namespace Go.Proofs
open Go.Ab Go.Cnt Go.Pl Go.Tg
noncomputable def cShort:List V→Option PR:=zB (fun M:List (List Str)=>[.fs (zJ M) M.length]) (fun M=>M.length≤1000000∧(∀ r∈M,r.length≤1000000)∧∀ r∈M,∀ s∈r,s.length≤1000000) fun M=>.ret (.bool (zcY M))
theorem zmP(M:List (List Str))(h1:M.length≤1000000)(h2:∀ r∈M,r.length≤1000000)(h3:∀ r∈M,∀ s∈r,s.length≤1000000):cShort [.fs (zJ M) M.length]=some (.ret (.bool (zcY M))):=
 zo (pat:=fun M:List (List Str)=>[.fs (zJ M) M.length]) (fun x y h=>by simp at h;exact zb3 h.1) M ⟨h1,h2,h3⟩
theorem zyx:∀ args r,cShort args=some r→PCall Tryz.prog 49 args r:=zn fun M h=>short_ok M h.1 h.2.1 h.2.2
set_option maxHeartbeats 4000000 in
theorem zrz(m:Mdl)(ws:List Str)(hf:Fit m)(hw:ws.length≤1000000):PCall Tryz.prog 25 [mdlV m,.fs (strs ws) ws.length] (.ret (.bool (zcV m ws))):=by
 have e1:=zmP m.next (Nat.le_trans hf.nl (by omega)) hf.nr hf.ns;have e2:=zmP m.emit (Nat.le_trans hf.el (by omega)) hf.er hf.es;have hb:(decide (3<(m.tags.length:Int))||decide (4<(ws.length:Int)))= !(decide (m.tags.length≤3)&&decide (ws.length≤4)):=by rw [Bool.eq_iff_iff];simp only [Bool.or_eq_true,Bool.not_eq_true',decide_eq_true_eq,Bool.and_eq_false_iff,decide_eq_false_iff_not];omega
 obtain⟨R,hR⟩:∃ R,R=zcV m ws:=⟨_,rfl⟩;rw [←hR];unfold zcV at hR;refine PCall.walk (rs:=[.tmp 4]) [0,1,2,4,13] [25] mixed (zf zyx zh) (zg) call25 Tryz.func25 rfl Tryz.ntmps25 rfl (by kernel_rfl) (by simp) (by simp [push_cast,zbZ]) ?_;obtain⟨T,W,N,E⟩:=m;dsimp only at e1 e2 hb hR;simp (disch:=first|assumption|(push_cast<;>omega)|omega) only [go_sem,mdlV];rw [hb];cases hc:(decide (T.length≤3)&&decide (ws.length≤4))with
 |false=>
  rw [hc,Bool.false_and]at hR;rw [hR];simp (disch:=first|assumption|(push_cast<;>omega)|omega) only [go_sem]
 |true=>
  rw [hc,Bool.true_and]at hR;rw [hR];simp (disch:=first|assumption|(push_cast<;>omega)|omega) only [go_sem,e1,e2]
noncomputable def zqG:List V→Option PR:=zB (fun p:Mdl×List Str=>[mdlV p.1,.fs (strs p.2) p.2.length]) (fun p=>Fit p.1∧p.2.length≤1000000) fun p=>.ret (.bool (zcV p.1 p.2))
theorem zp4(x y:Mdl×List Str)(h:[mdlV x.1,V.fs (strs x.2) x.2.length]=[mdlV y.1,V.fs (strs y.2) y.2.length]):x=y:=by simp only [List.cons.injEq,V.fs.injEq,and_true]at h;exact Prod.ext (zeg h.1) (zaC h.2.1)
theorem zo4(m:Mdl)(ws:List Str)(hf:Fit m)(hw:ws.length≤1000000):zqG [mdlV m,.fs (strs ws) ws.length]=some (.ret (.bool (zcV m ws))):=
 zo (pat:=fun p:Mdl×List Str=>[mdlV p.1,.fs (strs p.2) p.2.length]) zp4 (m,ws) ⟨hf,hw⟩
theorem zo3:∀ args r,zqG args=some r→PCall Tryz.prog 25 args r:=zn fun p h=>zrz p.1 p.2 h.1 h.2
def zie(e f:Int)(m:Mdl)(ws:List Str):Bool:=(decide (e=2)||decide (f=2))&& !zcV m ws
set_option maxHeartbeats 4000000 in
theorem zwE(e f:Int)(m:Mdl)(ws:List Str)(hf:Fit m)(hw:ws.length≤1000000):PCall Tryz.prog 18 [.int .i64 e,.int .i64 f,mdlV m,.fs (strs ws) ws.length] (.ret (.bool (zie e f m ws))):=by
 have e1:=zo4 m ws hf hw;obtain⟨R,hR⟩:∃ R,R=zie e f m ws:=⟨_,rfl⟩;rw [←hR];unfold zie at hR;rw [hR];refine PCall.walk (rs:=[.tmp 8]) [0,1,2,3,6,8] [25] mixed (zf zo3 zh) (zg) call18 Tryz.func18 rfl Tryz.ntmps18 rfl (by kernel_rfl) (by simp) (by simp [push_cast,zbZ]) ?_;generalize zcV m ws=sb at e1;obtain⟨T,W,N,E⟩:=m;unfold mdlV at e1 ⊢;dsimp only at e1 ⊢;simp (disch:=first|assumption|(push_cast<;>omega)|omega) only [go_sem,e1]
noncomputable def zzl:List V→Option PR:=zB (fun p:Int×Int×Mdl×List Str=>[.int .i64 p.1,.int .i64 p.2.1,mdlV p.2.2.1,.fs (strs p.2.2.2) p.2.2.2.length]) (fun p=>Fit p.2.2.1∧p.2.2.2.length≤1000000) fun p=>.ret (.bool (zie p.1 p.2.1 p.2.2.1 p.2.2.2))
theorem ztV(e f:Int)(m:Mdl)(ws:List Str)(hf:Fit m)(hw:ws.length≤1000000):zzl [.int .i64 e,.int .i64 f,mdlV m,.fs (strs ws) ws.length]=some (.ret (.bool (zie e f m ws))):=
 zo (pat:=fun p:Int×Int×Mdl×List Str=>[.int .i64 p.1,.int .i64 p.2.1,mdlV p.2.2.1,.fs (strs p.2.2.2) p.2.2.2.length]) (fun x y h=>by simp only [List.cons.injEq,V.fs.injEq,V.int.injEq,and_true,true_and]at h;exact Prod.ext h.1 (Prod.ext h.2.1 (Prod.ext (zeg h.2.2.1) (zaC h.2.2.2.1)))) (e,f,m,ws) ⟨hf,hw⟩
theorem ztU:∀ args r,zzl args=some r→PCall Tryz.prog 18 args r:=zn fun p h=>zwE p.1 p.2.1 p.2.2.1 p.2.2.2 h.1 h.2
structure InM(m:Mdl)(u:List Str):Prop where
 tl:m.tags.length≤1000000000000000
 wl:m.words.length≤1000000000000000
 nl:m.next.length≤1000000000000000
 el:m.emit.length≤1000000000000000
 ts:∀ s∈m.tags,s.length≤1000000000000000
 ws:∀ s∈m.words,s.length≤1000000000000000
 l:u.length≤1000000000000000
 s:∀ s∈u,s.length≤1000000000000000
theorem zql {M:List (List Str)}(h:∀ r∈M,∀ s∈r,s.length≤12)(i j:Nat):((nthR M i).getD j []).length≤1000000000:=by
 by_cases hi:i<M.length
 ·by_cases hj:j<(nthR M i).length
  ·exact Nat.le_trans (h _ (rowR.nth_mem hi) _ (zch hj)) (by omega)
  ·rw [List.getD_eq_getElem?_getD,List.getElem?_eq_none (by omega)];simp
 ·have:nthR M i=[]:=by
   show M.getD i []=[]
   rw [List.getD_eq_getElem?_getD,List.getElem?_eq_none (by omega)];rfl
  rw [this];simp
theorem fitB_fit {m:Mdl}{ws:List Str}(hi:InM m ws)(h:fitB m ws=true):Fit m∧ws.length≤4∧∀ i j,(nx m i j).length≤1000000000∧(em m i j).length≤1000000000:=by
 unfold fitB at h;simp only [Bool.and_eq_true,decide_eq_true_eq,List.all_cons,List.all_nil,and_true]at h;obtain⟨hsz,hn,he⟩:=h;unfold ziG at hsz;obtain⟨s1,s2,s3,s4,s5⟩:=hsz;have key:∀ {M:List (List Str)},mat8 M=true→(∀ r∈M,r.length≤8)∧∀ r∈M,∀ s∈r,s.length≤12:=fun {M} h=>by unfold mat8 row8 at h;simp only [List.all_eq_true,Bool.and_eq_true,decide_eq_true_eq]at h;refine⟨fun r hr=>(h r hr).1,fun r hr s hs=>?_⟩;have:=(h r hr).2 s hs;unfold zuS at this;exact of_decide_eq_true this
 obtain⟨n1,n2⟩:=key hn;obtain⟨e1,e2⟩:=key he;refine⟨⟨by omega,by omega,by omega,by omega,hi.ts,hi.ws,fun r hr=>Nat.le_trans (n1 r hr) (by omega),fun r hr=>Nat.le_trans (e1 r hr) (by omega),fun r hr s hs=>Nat.le_trans (n2 r hr s hs) (by omega),fun r hr s hs=>Nat.le_trans (e2 r hr s hs) (by omega)⟩,s5,fun i j=>⟨zql n2 i j,zql e2 i j⟩⟩
noncomputable def zyw:List V→Option PR:=zB (fun p:Mdl×List Str=>[mdlV p.1,.fs (strs p.2) p.2.length]) (fun p=>InM p.1 p.2) fun p=>.ret (.bool (!fitB p.1 p.2))
theorem ztE(m:Mdl)(ws:List Str)(h:InM m ws):zyw [mdlV m,.fs (strs ws) ws.length]=some (.ret (.bool (!fitB m ws))):=
 zo (pat:=fun p:Mdl×List Str=>[mdlV p.1,.fs (strs p.2) p.2.length]) zp4 (m,ws) h
theorem ztD:∀ args r,zyw args=some r→PCall Tryz.prog 16 args r:=zn fun p h=>zuF p.1 p.2 h.tl h.wl h.nl h.el h.l
noncomputable def cTAwk:List V→Option PR:=zB (fun _:Unit=>[]) (fun _=>True) fun _=>.ret (.bool true)
@[go_sem] theorem cTAwk_eq:cTAwk []=some (.ret (.bool true)):=zo (pat:=fun _:Unit=>([]:List V)) (fun _ _ _=>rfl) () trivial
theorem cTAwk_ok:∀ args r,cTAwk args=some r→PCall Tryz.prog 15 args r:=zn fun _ _=>zt6
end Go.Proofs

namespace Go.Proofs
open Go.Ab Go.Cnt Go.Pl
theorem dStr:Dec Tryz.prog 9 strR (fun s=>s.length≤reachBytes):=Dec.str Tryz.underlying9 (by kernel_rfl)
def okS(l:List Str):Prop:=l.length≤reachBytes∧∀ s∈l,s.length≤reachBytes
theorem dStrs:Dec Tryz.prog 22 (slR strR) okS:=dStr.slice Tryz.underlying22 (by kernel_rfl) (of_decide_eq_true (by kernel_rfl))
theorem dRows:Dec Tryz.prog 23 (slR (slR strR)) (fun l=>l.length≤reachBytes):=(dStrs.slice Tryz.underlying23 (by kernel_rfl) (of_decide_eq_true (by kernel_rfl))).cast (fun a=>a) rfl (fun _=>rfl) fun _ h=>h.1
abbrev MdlT:=((List Str×List Str)×List (List Str))×List (List Str)
def okM(p:MdlT):Prop:=((okS p.1.1.1∧okS p.1.1.2)∧p.1.2.length≤reachBytes)∧p.2.length≤reachBytes
abbrev mdlR:=zj3 (zj3 (zj3 (slR strR) (slR strR)) (slR (slR strR))) (slR (slR strR))
theorem dMdl:Dec Tryz.prog 25 mdlR okM:=Dec.four Tryz.underlying25 dStrs dStrs dRows dRows rfl rfl rfl rfl (by kernel_rfl)
theorem zcG {n:Nat}(h:n≤reachBytes):n≤1000000000000000:=Nat.le_trans h (by unfold reachBytes;omega)
def mdlOf(p:MdlT):Mdl:=⟨p.1.1.1,p.1.1.2,p.1.2,p.2⟩
theorem mdl_enc(p:MdlT):V.agg (mdlR.enc p)=mdlV (mdlOf p):=by obtain⟨⟨⟨T,W⟩,N⟩,E⟩:=p;show V.agg ((([V.fs (strR.cells T) T.length]++[V.fs (strR.cells W) W.length])++[V.fs ((slR strR).cells N) N.length])++[V.fs ((slR strR).cells E) E.length])=_;rw [zd7,zd7,zvh,zvh];rfl
theorem inM_of {p:MdlT}{w:List Str}(h:okM p)(hw:okS w):InM (mdlOf p) w:=
 ⟨zcG h.1.1.1.1,zcG h.1.1.2.1,zcG h.1.2,zcG h.2,fun s hs=>zcG (h.1.1.1.2 s hs),fun s hs=>zcG (h.1.1.2.2 s hs),zcG hw.1,fun s hs=>zcG (hw.2 s hs)⟩
end Go.Proofs

namespace Go.Ab
theorem NCall.freeze {P:Program}{f:FuncId}{args:List V}{F:List Blk}{W:List Nat}{v0:V}{Hc0:Hp}(hN:NCall P f args F W v0 Hc0){v:V}{Hc:Hp}(fl:List Nat)
 (hfl:∀ b∈fl,F.length≤b∧∃ x,Hc0.get b=some x) (hW:∀ b∈W,∃ x,Hc0.get b=some x) (hv:Rn id (fun b=>¬b∈fl∧b<Hc.next) v v0∨FrzF Hc0 (· ∈fl) v0 v)
 (hh:∀ b x',Hc.get b=some x'→b<Hc.next∧¬b∈fl∧∃ x,Hc0.get b=some x∧FzB Hc0 (· ∈fl) Hc.next x' x) (hel:∀ b,b<F.length→Hc.get b=Hc0.get b) (hn:F.length≤Hc.next):NCall P f args F W v Hc:=by
 refine⟨hN.call,hN.sub,hn,fun g base w vs hgl hinv hvs hpw=>(hN.run g base w vs hgl hinv hvs hpw).mono fun e w' ⟨g1,vc,he,hv1,hp⟩=>?_⟩
 let C:Cfg:=⟨1,zbk [],noΓ,noΔ,F.length,W,zbk []⟩
 have hent:Entry C base (fun _=>True) g ⟨numB 0 F,F.length⟩ w:=⟨hinv,rfl,fun _ _=>trivial⟩
 have hr:Rel C base (fun _=>True) g ⟨numB 0 F,F.length⟩ w g1 ⟨[(0,v0)],Hc0⟩ { tmps:=#[vc],defers:=[] } w':=by
  refine⟨⟨hgl.mono hp.le.2,by simp [C],fun t x e=>?_⟩,rfl,hp⟩;rw [List.lookup_cons]at e;by_cases ht:t=0
  ·subst ht;simp only [beq_self_eq_true,Option.some.injEq]at e;subst e;exact hv1
  ·have hb:(t==0)=false:=by simp [ht]
   simp only [hb]at e;cases e
 have henv:∀ t v',([(0,v)]:Env).lookup t=some v'→v'=.any∨∃ u,([(0,v0)]:Env).lookup t=some u∧(Rn id (fun b=>¬b∈fl∧b<Hc.next) v' u∨FrzF Hc0 (· ∈fl) u v'):=fun t v' e=>by
  rw [List.lookup_cons]at e;by_cases ht:t=0
  ·subst ht;simp only [beq_self_eq_true,Option.some.injEq]at e;subst e;exact .inr ⟨v0,by simp,hv⟩
  ·have hb:(t==0)=false:=by simp [ht]
   simp only [hb]at e;cases e
 obtain⟨g2,h4⟩:=hr.freeze3 (F:=(· ∈fl)) (s':=⟨[(0,v)],Hc⟩) hent (fun b hb=>⟨hN.sub b hb,hW b hb⟩) ⟨henv,hh,hfl,hel,hn⟩
 exact⟨g2,vc,he,by simpa using h4.env.rel 0 v (by simp),h4.post⟩
end Go.Ab

namespace Go.Proofs
open Go.Ab Go.Cnt Go.Pl Go.Tg
theorem eq_fsN {l:List Nat}(h:l≠[])(H:Hp):aBin Tryz.prog .eql 38 (.fs (nats .i64 l) l.length) .nilS H=⟨True,.bool false,H,[],[]⟩:=by obtain⟨d,r,rfl⟩:=List.exists_cons_of_ne_nil h;simp [aBin,xEq,eqV,Tryz.underlying38,XR.ar]
theorem eq_nilN(H:Hp):aBin Tryz.prog .eql 38 .nilS .nilS H=⟨True,.bool true,H,[],[]⟩:=by simp [aBin,xEq,eqV,Tryz.underlying38,XR.ar]
set_option maxHeartbeats 4000000 in
theorem zxW(l:List Nat)(hl:l.length≤1000000)(hne:l≠[]):NCall Tryz.prog 38 [.fs (nats .i64 l) l.length] [] [] (.sl 0 0 l.length 1 none) ⟨[(0,.cells (nats .i64 l))],1⟩:=by
 have hp:0<l.length:=List.length_pos_iff.2 hne;have h0:(l.length=0)=False:=eq_false (by omega);have h1:(l.length≤0)=False:=eq_false (by omega);refine NCall.walk (rs:=[.tmp 2]) [0,2,4] [] 0 mixed (zh) (zg) call38 Tryz.func38 rfl Tryz.ntmps38 rfl (by kernel_rfl) (by simp) (by simp) (by simp) ?_;simp (disch:=first|assumption|(push_cast<;>omega)|omega) only [go_sem,eq_fsN hne,h0,h1,if_false];refine⟨⟨by omega,by omega⟩,[(2,.sl 0 0 l.length 1 none)],Sub.of [(0,1)] rfl ?_ ?_ (by decide) (fun b hb _=>absurd hb (Nat.not_lt_zero b)),rfl⟩
 ·simp only [go_sem]
 ·simp only [go_sem]
theorem zxU:NCall Tryz.prog 38 [.nilS] [] [] .nilS ⟨[],0⟩:=by
 refine NCall.walk (rs:=[.tmp 2]) [0,2,4] [] 0 mixed (zh) (zg) call38 Tryz.func38 rfl Tryz.ntmps38 rfl (by kernel_rfl) (by simp) (by simp) (by simp) ?_;simp (disch:=first|assumption|(push_cast<;>omega)|omega) only [go_sem,eq_nilN];exact⟨[(2,.nilS)],Sub.of [] rfl (by simp only [go_sem]) (by simp only [go_sem]) (by decide) (fun b hb _=>absurd hb (Nat.not_lt_zero b)),rfl⟩
def CloneR(args:List V)(H:Hp)(r:AR):Prop:=(∀ b x,H.get b=some x→b<H.next)∧((args=[.nilS]∧r=⟨True,.nilS,H,[],[]⟩)∨
 ∃ l:List Nat,l≠[]∧l.length≤1000000∧args=[.fs (nats .i64 l) l.length]∧r=⟨True,.sl H.next 0 l.length 1 none,⟨(H.next,.cells (nats .i64 l))::H.bs,H.next+1⟩,[],[]⟩)
theorem zxV:∀ args H r,CloneR args H r→HCall Tryz.prog 38 args H r:=by
 rintro args H r ⟨hk,h⟩;rcases h with⟨rfl,rfl⟩|⟨l,hne,hl,rfl,rfl⟩
 ·exact HCall.plain zxU .nilS (fun x hx=>by rw [List.mem_singleton.1 hx];exact .nilS) H hk
 ·exact HCall.fresh (zxW l hl hne) (zaa _ _) [] _ H rfl .nil (zt fun x hx=>by rw [List.mem_singleton.1 hx];exact .fs (zaa _ _)) (fun i x hx=>by simp at hx) (fun i x hx=>by simp at hx) hk
noncomputable def ΔS:FuncId→List V→Hp→Option AR:=zcD 36 (conD (zui ziY)) (zcD 38 (conD CloneR) noΔ)
theorem ΔS_ok:za4 Tryz.prog ΔS:=zau (zaS (zgy ziY fun x r h=>zuH r x.1 x.2 h.1 h.2)) (zau (zaS zxV) zg)
theorem zum(b:Nat)(r:Run)(p q:Str)(bs:List (Nat×Blk))(n:Nat)(lp:p.length≤1000000000)(lq:q.length≤1000000000)(hb:zaF bs b=some (.cells (runC r)))(hk:((keysB bs).all fun b=>decide (b<n))=true):
 ΔS 36 [.ptr b 0,.str p,.str q] ⟨bs,n⟩=some ⟨True,.str (tm r.f p q).1,(⟨bs,n⟩:Hp).put b (.cells (runC ⟨r.m,r.cs,(tm r.f p q).2⟩)),[b],[b]⟩:=zgz ziY (x:=(p,q)) (s:=r) ⟨lp,lq⟩ hb hk
end Go.Proofs

namespace Go.Ab
open Go.Cnt
variable {P:Program}{C:Cfg}{env:Env}{H:Hp}
def znt:=@zas
theorem zgX(t:TypeId)(x k v:Operand):step1 C P env (.mapUpdate t x k v) H=mkSR false ((ev env x).cond∧(ev env k).cond∧(ev env v).cond) (XR.ar H (zas P t (ev env x).val (ev env k).val (ev env v).val H)) H:=zZ rfl (by simp [Op.operands,needs]) rfl
abbrev Ens:=List (Str×Int)
def mpS:Nat→Ens→List (Nat×V×V)
 |_,[]=>[]
 |i,e::l=>(i,.str e.1,.int .i64 e.2)::mpS (i+1) l
theorem zwP:∀(i:Nat) (l:Ens),(mpS i l).length=l.length
 |_,[]=>rfl
 |i,e::l=>by rw [mpS,List.length_cons,zwP];rfl
attribute [go_sem] zgX zwP
end Go.Ab
