/- What the statements of chapter 36 ask ahead: large, long, Small. -/
import Derived.Test.YthbimeikbkjnkaaGreatDoorT5
import Derived.Test.YthbimeikbkjnkaaGreatDoorEvIx
set_option linter.all false
namespace Go.Proofs
open Go.Ab Go.Cnt Go.Pl Go.Tg
def ztm(s:Str):Bool:=decide (s.length≤12)
def row8(r:List Str):Bool:=decide (r.length≤8)&&r.all ztm
def mat8(m:List (List Str)):Bool:=m.all row8
def zh4(m:Mdl)(ws:List Str):Prop:=m.tags.length≤3∧m.words.length≤6∧m.next.length≤5∧m.emit.length≤5∧ws.length≤4
instance (m:Mdl) (ws:List Str):Decidable (zh4 m ws):=inferInstanceAs (Decidable (_∧_))
def fitB(m:Mdl)(ws:List Str):Bool:=decide (zh4 m ws)&&[m.next,m.emit].all mat8
theorem matR_nth(L:List (List (List Str)))(i:Nat)(h:i<L.length):nthV (zhF L) i=.fs (zI (nthM L i)) (nthM L i).length:=by have:=matsC_at L i h;rw [←zjy,this];rfl
set_option maxHeartbeats 8000000 in
set_option maxRecDepth 100000 in
theorem ztb(m:Mdl)(ws:List Str)(h1:m.tags.length≤1000000000000000)(h2:m.words.length≤1000000000000000)(h3:m.next.length≤1000000000000000)(h4:m.emit.length≤1000000000000000)(h5:ws.length≤1000000000000000):
 PCall Tryz.prog 16 [mdlV m,.fs (strs ws) ws.length] (.ret (.bool (!fitB m ws))):=by
 obtain⟨T,W,N,E⟩:=m
 dsimp only at h1 h2 h3 h4
 refine PCall.walk (rs:=[.tmp 4]) [0,1,2,4,6,7,8,35,40,41,42,43,49,57,64,75] [25] mixed (zh) (zg) call16 Tryz.func16 rfl Tryz.ntmps16 rfl (by kernel_rfl) (by simp) (by simp [push_cast,zbQ]) ?_
 have hb:(decide (3<(T.length:Int))||decide (6<(W.length:Int))||decide (5<(N.length:Int))||decide (5<(E.length:Int))||decide (4<(ws.length:Int)))= !decide (zh4 ⟨T,W,N,E⟩ ws):=by rw [Bool.eq_iff_iff];simp only [Bool.or_eq_true,Bool.not_eq_true',decide_eq_true_eq,decide_eq_false_iff_not];unfold zh4;dsimp only;omega
 obtain⟨R,hR⟩:∃ R,R=fitB ⟨T,W,N,E⟩ ws:=⟨_,rfl⟩
 rw [←hR]
 by_cases hs:zh4 ⟨T,W,N,E⟩ ws
 case neg=>
  have hv:R=false:=by rw [hR];unfold fitB;rw [decide_eq_false hs];rfl
  rw [hv]
  simp (disch:=first|assumption|(push_cast<;>omega)|omega) only [go_sem,mdlV]
  rw [hb,decide_eq_false hs]
  simp (disch:=first|assumption|(push_cast<;>omega)|omega) only [go_sem]
 have hv:R=[N,E].all mat8:=by rw [hR];unfold fitB;rw [decide_eq_true hs];rfl
 simp (disch:=first|assumption|(push_cast<;>omega)|omega) only [go_sem,mdlV]
 rw [hb,decide_eq_true hs]
 simp (disch:=first|assumption|(push_cast<;>omega)|omega) only [go_sem]
 obtain⟨s1,s2,s3,s4,s5⟩:=hs
 dsimp only at s1 s2 s3 s4 s5
 obtain⟨L,hL⟩:∃ L,L=[N,E]:=⟨_,rfl⟩
 have hLl:L.length=2:=by rw [hL];rfl
 have hlen:∀ i,i<2→(nthM L i).length≤5:=fun i hi=>by
  rw [hL];match i,hi with
  |0,_=>exact s3
  |1,_=>exact s4
 have hcells:[V.fs (zI N) N.length,V.fs (zI E) E.length]=zhF L:=by rw [hL];rfl
 rw [hcells]
 rw [←hL]at hv
 clear hcells hL hR
 refine AXs.loop mixed (zh) (zg) (fun i:Nat=>[(40,.sl 0 0 2 1 (some 2)),(41,.int .i64 2),(42,.int .i64 i)]) (fun _=>⟨[(0,.cells (zhF L))],1⟩) (fun i=>i≤2∧∀ j,j<i→mat8 (nthM L j)=true) (fun i=>2 - i) 0 (by kernel_rfl) ⟨Nat.zero_le _,fun j hj=>by omega⟩ (Sub.of0 [(0,0)] rfl rfl ?_ ?_) ?_
 ·simp only [go_sem]
 ·simp only [go_sem]
 rintro i ⟨k1,k2⟩
 simp only [go_sem]
 refine AXc.introP (fun k3=>?_) (fun k3=>?_)
 rotate_left
 ·obtain rfl:i=2:=by omega
  rw [hv,show L.all mat8=true from matR.all_t (p:=mat8) fun i hi=>k2 i (by omega)]
  simp only [go_sem]
  refine AXa.go mixed (zh) (zg) (by kernel_rfl) ?_
  simp only [go_sem]
 have hi:i<2:=by omega
 have at1:=matR_nth L i (by omega)
 have hm5:=hlen i hi
 have hmf:mat8 (nthM L i)=false→L.all mat8=false:=fun h=>matR.all_f (p:=mat8) (i:=i) (by omega) h
 generalize hM:nthM L i=M at at1 hm5 hmf
 simp (disch:=first|assumption|(push_cast<;>omega)|omega) only [go_sem,at1,hLl]
 try (repeat refine sdC ?_)
 refine AXs.loop mixed (zh) (zg) (fun j:Nat=>[(40,.sl 0 0 2 1 (some 2)),(41,.int .i64 2),(42,.int .i64 i),(6,.fs (zI M) M.length),(7,.int .i64 j)]) (fun _=>⟨[(0,.cells (zhF L))],1⟩) (fun j=>j≤M.length∧∀ q,q<j→row8 (nthR M q)=true) (fun j=>M.length - j) 0 (by kernel_rfl) ⟨Nat.zero_le _,fun q hq=>by omega⟩ (Sub.of0 [(0,0)] rfl rfl ?_ ?_) ?_
 ·simp only [go_sem]
 ·simp only [go_sem]
 rintro j ⟨k4,k5⟩
 simp only [go_sem]
 refine AXc.introP (fun k6=>?_) (fun k6=>?_)
 rotate_left
 ·obtain rfl:j=M.length:=by omega
  simp only [go_sem]
  refine AXa.go mixed (zh) (zg) (by kernel_rfl) ?_
  simp (disch:=first|assumption|(push_cast<;>omega)|omega) only [go_sem]
  refine zo (i+1) ⟨by omega,fun q hq=>?_⟩ (by omega) (Sub.of0 [(0,0)] rfl rfl ?_ ?_)
  ·by_cases hqi:q<i
   ·exact k2 q hqi
   ·obtain rfl:q=i:=by omega
    rw [hM]
    exact rowR.all_t (p:=row8) k5
  ·simp only [go_sem]
   simp
  ·simp only [go_sem]
 have hj:j<M.length:=by omega
 have at2:=zcs M j hj
 have hrf:row8 (nthR M j)=false→L.all mat8=false:=fun h=>hmf (rowR.all_f (p:=row8) hj h)
 generalize hrr:nthR M j=r at at2 hrf
 simp (disch:=first|assumption|(push_cast<;>omega)|omega) only [go_sem,at2]
 try (repeat refine sdC ?_)
 refine AXc.introP (fun k7=>?_) (fun k7=>?_)
 ·rw [hv,hrf (by unfold row8;rw [decide_eq_false (by omega)];rfl)]
  simp (disch:=first|assumption|(push_cast<;>omega)|omega) only [go_sem]
 simp (disch:=first|assumption|(push_cast<;>omega)|omega) only [go_sem]
 refine AXs.loop mixed (zh) (zg) (fun q:Nat=>[(40,.sl 0 0 2 1 (some 2)),(41,.int .i64 2),(42,.int .i64 i),(6,.fs (zI M) M.length),(7,.int .i64 j),(8,.int .i64 q)]) (fun _=>⟨[(0,.cells (zhF L))],1⟩) (fun q=>q≤r.length∧∀ z,z<q→ztm (r.getD z [])=true) (fun q=>r.length - q) 0 (by kernel_rfl) ⟨Nat.zero_le _,fun z hz=>by omega⟩ (Sub.of0 [(0,0)] rfl rfl ?_ ?_) ?_
 ·simp only [go_sem]
 ·simp only [go_sem]
 rintro q ⟨k8,k9⟩
 simp (disch:=first|assumption|(push_cast<;>omega)|omega) only [go_sem,at2]
 try (repeat refine sdC ?_)
 refine AXc.introP (fun k10=>?_) (fun k10=>?_)
 ·simp (disch:=first|assumption|(push_cast<;>omega)|omega) only [go_sem,at2]
  try (repeat refine sdC ?_)
  refine AXc.introP (fun k11=>?_) (fun k11=>?_)
  ·rw [hv,hrf (by unfold row8;rw [zfH (i:=q) (by omega) (by unfold ztm;exact decide_eq_false (by omega)),Bool.and_false])]
   simp (disch:=first|assumption|(push_cast<;>omega)|omega) only [go_sem]
  ·simp (disch:=first|assumption|(push_cast<;>omega)|omega) only [go_sem]
   refine zo (q+1) ⟨by omega,fun z hz=>?_⟩ (by omega) (Sub.of0 [(0,0)] rfl rfl ?_ ?_)
   ·by_cases hzq:z<q
    ·exact k9 z hzq
    ·obtain rfl:z=q:=by omega
     unfold ztm;exact decide_eq_true (by omega)
   ·simp only [go_sem]
    simp
   ·simp only [go_sem]
 ·simp only [go_sem]
  refine AXa.go mixed (zh) (zg) (by kernel_rfl) ?_
  simp (disch:=first|assumption|(push_cast<;>omega)|omega) only [go_sem]
  refine zo (j+1) ⟨by omega,fun z hz=>?_⟩ (by omega) (Sub.of0 [(0,0)] rfl rfl ?_ ?_)
  ·by_cases hzq:z<j
   ·exact k5 z hzq
   ·obtain rfl:z=j:=by omega
    rw [hrr]
    unfold row8
    rw [decide_eq_true (by omega),zfG fun q hq=>k9 q (by omega)];rfl
  ·simp only [go_sem]
   simp
  ·simp only [go_sem]
def cntS(s:Str):Nat:=s.countP (· ≠47)
theorem cntS_nil:cntS []=0:=rfl
theorem zv8(s:Str)(c:Nat)(hc:c<s.length):cntS (s.take (c+1))=cntS (s.take c)+if s.getD c 0=47 then 0 else 1:=by unfold cntS;rw [List.take_add_one,List.getElem?_eq_getElem hc,List.countP_append,List.getD_eq_getElem?_getD,List.getElem?_eq_getElem hc];show _+List.countP _ [s[c]]=_;rw [List.countP_cons,List.countP_nil];by_cases h:s[c]=47<;>simp [h]
theorem cntS_le(s:Str)(c:Nat):cntS (s.take c)≤c:=Nat.le_trans List.countP_le_length (by simp;omega)
def fewS(s:Str):Bool:=decide (cntS s≤4)
set_option maxHeartbeats 8000000 in
set_option maxRecDepth 100000 in
theorem short_ok(M:List (List Str))(h1:M.length≤1000000)(h2:∀ r∈M,r.length≤1000000)(h3:∀ r∈M,∀ s∈r,s.length≤1000000):PCall Tryz.prog 49 [.fs (zI M) M.length] (.ret (.bool (zfx M))):=by
 refine PCall.walk (rs:=[.tmp 2]) [0,2,3,4,5,6,10,19,31,43,47] [] mixed (zh) (zg) call49 Tryz.func49 rfl Tryz.ntmps49 rfl (by kernel_rfl) (by simp) (by simp [push_cast,zc3]) ?_;simp (disch:=first|assumption|(push_cast<;>omega)|omega) only [go_sem];refine AXs.loop mixed (zh) (zg) (fun i:Nat=>[(0,.fs (zI M) M.length),(3,.int .i64 i)]) (fun _=>⟨[],0⟩) (fun i=>i≤M.length∧∀ j,j<i→(nthR M j).all fewS=true) (fun i=>M.length - i) 0 (by kernel_rfl) ⟨Nat.zero_le _,fun j hj=>by omega⟩ (Sub.of0 [] rfl rfl ?_ ?_) ?_
 ·simp only [go_sem]
 ·simp only [go_sem]
 rintro i ⟨k1,k2⟩;simp only [go_sem];refine AXc.introP (fun k3=>?_) (fun k3=>?_);rotate_left
 ·obtain rfl:i=M.length:=by omega
  rw [show zfx M=true from rowR.all_t (p:=fun r:List Str=>r.all fewS) k2];simp only [go_sem];refine AXa.go mixed (zh) (zg) (by kernel_rfl) ?_;simp only [go_sem]
 have hi:i<M.length:=by omega
 have at2:=zcs M i hi;have hrf:(nthR M i).all fewS=false→zfx M=false:=fun h=>rowR.all_f (p:=fun r:List Str=>r.all fewS) hi h;have hmem:nthR M i∈M:=rowR.nth_mem hi;have hl2:=h2 _ hmem;have hl3:=h3 _ hmem;generalize hrr:nthR M i=r at at2 hrf hl2 hl3;simp (disch:=first|assumption|(push_cast<;>omega)|omega) only [go_sem];refine AXs.loop mixed (zh) (zg) (fun k:Nat=>[(0,.fs (zI M) M.length),(3,.int .i64 i),(4,.int .i64 k)]) (fun _=>⟨[],0⟩) (fun k=>k≤r.length∧∀ j,j<k→fewS (r.getD j [])=true) (fun k=>r.length - k) 0 (by kernel_rfl) ⟨Nat.zero_le _,fun j hj=>by omega⟩ (Sub.of0 [] rfl rfl ?_ ?_) ?_
 ·simp only [go_sem]
 ·simp only [go_sem]
 rintro k ⟨k4,k5⟩;simp (disch:=first|assumption|(push_cast<;>omega)|omega) only [go_sem,at2];try (repeat refine sdC ?_)
 refine AXc.introP (fun k6=>?_) (fun k6=>?_);rotate_left
 ·obtain rfl:k=r.length:=by omega
  simp only [go_sem];refine AXa.go mixed (zh) (zg) (by kernel_rfl) ?_;simp (disch:=first|assumption|(push_cast<;>omega)|omega) only [go_sem];refine zo (i+1) ⟨by omega,fun j hj=>?_⟩ (by omega) (Sub.of0 [] rfl rfl ?_ ?_)
  ·by_cases hji:j<i
   ·exact k2 j hji
   ·obtain rfl:j=i:=by omega
    rw [hrr];exact zfG k5
  ·simp only [go_sem];simp
  ·simp only [go_sem]
 have hk:k<r.length:=by omega
 have hsm:r.getD k []∈r:=zcx hk;have hsl:=hl3 _ hsm;have hsf:fewS (r.getD k [])=false→zfx M=false:=fun h=>hrf (zfH hk h);generalize hss:r.getD k []=s at hsl hsf;simp (disch:=first|assumption|(push_cast<;>omega)|omega) only [go_sem];refine AXs.loop mixed (zh) (zg) (fun c:Nat=>[(0,.fs (zI M) M.length),(3,.int .i64 i),(4,.int .i64 k),(5,.int .i64 (cntS (s.take c):Nat)),(6,.int .i64 c)]) (fun _=>⟨[],0⟩) (fun c=>c≤s.length) (fun c=>s.length - c) 0 (by kernel_rfl) (Nat.zero_le _) (Sub.of0 [] rfl rfl ?_ ?_) ?_
 ·simp only [go_sem,List.take_zero,cntS_nil]
 ·simp only [go_sem]
 intro c k7;simp (disch:=first|assumption|(push_cast<;>omega)|omega) only [go_sem,at2,hss];try (repeat refine sdC ?_)
 have hcl:=cntS_le s c;refine AXc.introP (fun k8=>?_) (fun k8=>?_)
 ·have hc:c<s.length:=by omega
  have hst:=zv8 s c hc;simp (disch:=first|assumption|(push_cast<;>omega)|omega) only [go_sem,at2,hss];try (repeat refine sdC ?_)
  have hde:decide (((s.getD c 0).toNat:Int)=47)=decide (s.getD c 0=47):=by refine decide_eq_decide.2 ⟨fun h=>?_,fun h=>by rw [h];rfl⟩;apply UInt8.toNat_inj.1;show _=47;omega
  rw [hde];refine AXc.introN (fun k9=>?_) (fun k9=>?_)
  ·rw [if_neg k9]at hst;simp (disch:=first|assumption|(push_cast<;>omega)|omega) only [go_sem];refine zo (c+1) (by omega) (by omega) (Sub.of0 [] rfl rfl ?_ ?_)
   ·rw [hst];simp only [go_sem];simp
   ·simp only [go_sem]
  ·rw [if_pos k9]at hst;simp (disch:=first|assumption|(push_cast<;>omega)|omega) only [go_sem];refine zo (c+1) (by omega) (by omega) (Sub.of0 [] rfl rfl ?_ ?_)
   ·rw [hst];simp only [go_sem];simp
   ·simp only [go_sem]
 ·obtain rfl:c=s.length:=by omega
  rw [List.take_length]at hcl ⊢;simp only [go_sem];refine AXa.go mixed (zh) (zg) (by kernel_rfl) ?_;simp (disch:=first|assumption|(push_cast<;>omega)|omega) only [go_sem];refine AXc.introP (fun k9=>?_) (fun k9=>?_)
  ·rw [hsf (by unfold fewS;exact decide_eq_false (by omega))];simp (disch:=first|assumption|(push_cast<;>omega)|omega) only [go_sem]
  ·simp (disch:=first|assumption|(push_cast<;>omega)|omega) only [go_sem];refine zo (k+1) ⟨by omega,fun j hj=>?_⟩ (by omega) (Sub.of0 [] rfl rfl ?_ ?_)
   ·by_cases hji:j<k
    ·exact k5 j hji
    ·obtain rfl:j=k:=by omega
     rw [hss];unfold fewS;exact decide_eq_true (by omega)
   ·simp only [go_sem];simp
   ·simp only [go_sem]
end Go.Proofs
