/- Score. -/
import Derived.Test.YthbimeikbkjnkaaGreatDoorCTgDP
import Derived.KernelRfl
set_option linter.all false
set_option maxHeartbeats 16000000
set_option maxRecDepth 100000
namespace Go.Proofs
open Tryz Go.Ab Go.Cnt Go.Pl Go.Tg
def zbo(m:Mdl)(tgs:List Str):List Nat:=tgs.map (idxS m.tags)
def scA(m:Mdl)(js:List Nat)(k:Nat):Str:=nx m (lastOf m.tags.length js k) (js.getD k 0)
def scB(m:Mdl)(cs js:List Nat)(k:Nat):Str:=em m (js.getD k 0) (cs.getD k 0)
def scP(m:Mdl)(cs js:List Nat):Nat→Str×Int
 |0=>([49],0)
 |k+1=>tm (tm (scP m cs js k).2 (scA m js k) (scB m cs js k)).2 (scP m cs js k).1 (tm (scP m cs js k).2 (scA m js k) (scB m cs js k)).1
def scF(m:Mdl)(cs js:List Nat):Str×Int:=tm (scP m cs js js.length).2 (scP m cs js js.length).1 (nx m (lastOf m.tags.length js js.length) m.tags.length)
noncomputable def zb7(m:Mdl)(ws tgs:List Str):Str×Int:=
 if (vmB m&&zci ws)=false∨tgs.length≠ws.length then([],1)else if ¬∀ t∈zbo m tgs,t<m.tags.length then([],4)else
  if (scF m (zq m ws) (zbo m tgs)).2≠0 then([],(scF m (zq m ws) (zbo m tgs)).2)else((scF m (zq m ws) (zbo m tgs)).1,0)
theorem zvS(m:Mdl)(cs js:List Nat):∀ k,(scP m cs js k).1.length≤1000
 |0=>by simp [scP]
 |k+1=>zf4 _ _ _
theorem zvp(m:Mdl)(tgs:List Str)(i:Nat)(h:i<tgs.length):(zbo m tgs).getD i 0=idxS m.tags (tgs.getD i []):=by unfold zbo;rw [List.getD_eq_getElem?_getD,List.getD_eq_getElem?_getD,List.getElem?_map,List.getElem?_eq_getElem h];rfl
theorem zfo(m:Mdl)(ws:List Str)(i:Nat)(h:i<ws.length):(zq m ws).getD i 0=idxS m.words (ws.getD i []):=by unfold zq;rw [List.getD_eq_getElem?_getD,List.getD_eq_getElem?_getD,List.getElem?_map,List.getElem?_eq_getElem h];rfl
theorem zmx {n:Nat}{js:List Nat}{k:Nat}(h:∀ j,j<k→js.getD j 0<n):lastOf n js k≤n:=by
 unfold lastOf;split
 ·exact Nat.le_refl _
 ·exact Nat.le_of_lt (h _ (by omega))
theorem zoV(n:Nat)(js:List Nat)(k:Nat):lastOf n js (k+1)=js.getD k 0:=by unfold lastOf;rw [if_neg (by omega)];rfl
theorem zjN {m:Mdl}(hv:vmB m=true):m.next.length=m.tags.length+1∧(∀ i,i≤m.tags.length→(nthR m.next i).length=m.tags.length+1)∧m.emit.length=m.tags.length∧(∀ i,i<m.tags.length→(nthR m.emit i).length=m.words.length+1)∧incS m.tags=true∧incS m.words=true:=by
 obtain⟨h1,h2⟩:=zgV hv;unfold matB at h1 h2;simp only [Bool.and_eq_true,decide_eq_true_eq,List.all_eq_true]at h1 h2;unfold vmB at hv;simp only [Bool.and_eq_true]at hv;refine⟨h1.1,fun i hi=>?_,h2.1,fun i hi=>?_,hv.2.2.1,hv.2.2.2.1⟩
 ·have:=h1.2 _ (rowR.nth_mem (show i<m.next.length by omega));unfold zez at this;simp only [Bool.and_eq_true,decide_eq_true_eq]at this;exact this.1
 ·have:=h2.2 _ (rowR.nth_mem (show i<m.emit.length by omega));unfold zez at this;simp only [Bool.and_eq_true,decide_eq_true_eq]at this;exact this.1
theorem zb3(M:List (List Str))(i:Nat)(h:i<M.length):nthV (zu M) i=.fs (strs (nthR M i)) (nthR M i).length:=by have:=zqq M i h;rw [←zku,this];rfl
theorem score_ok(m:Mdl)(ws tgs:List Str)(hf:Fit m)(hw:ws.length≤1000000)(ht:tgs.length≤1000000)(hl:∀ i j,(nx m i j).length≤1000000000∧(em m i j).length≤1000000000):
 PCall prog 12 [mdlV m,.fs (strs ws) ws.length,.fs (strs tgs) tgs.length] (.ret (.tup [.str (zb7 m ws tgs).1,.int .i64 (zb7 m ws tgs).2])):=by
 have hΓ:=zf zh5 zh
 have p1:ΔR 33 [mdlV m,.fs (strs ws) ws.length] ⟨[],0⟩=_:=zg8 m ws hf hw
 obtain⟨R,hr⟩:∃ R,R=zb7 m ws tgs:=⟨_,rfl⟩
 rw [←hr]
 unfold zb7 at hr
 have vs:=zjN (m:=m)
 refine PCall.walk (rs:=[.tmp 6,.tmp 7]) [0,1,2,3,6,7,8,9,10,11,12,13,21,27,30,31,32,33,45,75,92] [25] mixed (hΓ) (zp3) call12 func12 rfl ntmps12 rfl (by kernel_rfl) (by simp) (by simp [push_cast,zdp]) ?_
 generalize hcs:zq m ws=cs at p1 hr
 generalize hjs:zbo m tgs=js at hr
 obtain⟨hcl,hca⟩:cs.length=ws.length∧∀ i,i<ws.length→cs.getD i 0=idxS m.words (ws.getD i []):=⟨by rw [←hcs];simp [zq],fun i hi=>by rw [←hcs];exact zfo m ws i hi⟩
 obtain⟨hjl,hja⟩:js.length=tgs.length∧∀ i,i<tgs.length→js.getD i 0=idxS m.tags (tgs.getD i []):=⟨by rw [←hjs];simp [zbo],fun i hi=>by rw [←hjs];exact zvp m tgs i hi⟩
 have iw:=zdY m.words
 have it:=zdY m.tags
 obtain⟨T,W,N,E⟩:=m
 unfold mdlV at p1 ⊢
 dsimp only at p1 vs hca hja iw it hr ⊢
 cases hb:(vmB ⟨T,W,N,E⟩&&zci ws)with
 |false=>
  rw [hb,if_neg (by simp)]at p1
  rw [if_pos (.inl hb)]at hr
  rw [hr]
  simp (disch:=first|assumption|(push_cast<;>omega)|omega) only [go_sem,p1]
 |true=>
  rw [hb,if_pos rfl]at p1
  obtain⟨v1,v2,v3,v4,v5,v6⟩:=vs (by simp only [Bool.and_eq_true]at hb;exact hb.1)
  have htl:=hf.tl
  dsimp only at htl
  by_cases hlen:tgs.length=ws.length
  rotate_left
  ·rw [if_pos (.inr hlen)]at hr
   rw [hr]
   have e1:decide ((tgs.length:Int)=(ws.length:Int))=false:=decide_eq_false (by omega)
   simp (disch:=first|assumption|(push_cast<;>omega)|omega) only [go_sem,p1,e1]
  rw [if_neg (by rintro(h|h);(rw [hb]at h;cases h);exact h hlen)]at hr
  have e1:decide ((tgs.length:Int)=(ws.length:Int))=true:=decide_eq_true (by omega)
  have q1:=zp4 0 ⟨⟨T,W,N,E⟩,cs,0⟩ [(0,.cells (runC ⟨⟨T,W,N,E⟩,cs,0⟩))] 1 (by dsimp only;omega) rfl rfl
  dsimp only at q1
  simp (disch:=first|assumption|(push_cast<;>omega)|omega) only [go_sem,p1,e1,q1]
  obtain⟨M,hM⟩:∃ M,M=(⟨T,W,N,E⟩:Mdl):=⟨_,rfl⟩
  have hr1:(¬∀ t∈js,t<T.length)→R=([],4):=fun h=>by rw [if_pos h]at hr;exact hr
  have hr2:(∀ t∈js,t<T.length)→R=if (scF M cs js).2≠0 then([],(scF M cs js).2)else((scF M cs js).1,0):=fun h=>by rw [if_neg (fun k=>k h)]at hr;rw [hM];exact hr
  clear hr
  rw [←hM]at hl
  refine AXs.loop mixed (hΓ) (zp3) (fun i:Nat=>[(3,.fp [.fs (strs T) T.length,.fs (strs W) W.length,.fs (zu N) N.length,.fs (zu E) E.length]),(6,.str (scP M cs js i).1),(8,.ptr 0 0),(9,.int .i64 (lastOf T.length js i)),(10,.bool false),(30,.fs (strs tgs) tgs.length),(31,.int .i64 tgs.length),(32,.int .i64 i)])
   (fun i=>⟨[(0,.cells [.fs (strs T) T.length,.fs (strs W) W.length,.fs (zu N) N.length,.fs (zu E) E.length,.fs (nats .i64 cs) cs.length,.int .i64 (scP M cs js i).2])],1⟩) (fun i=>i≤tgs.length∧∀ j,j<i→js.getD j 0<T.length) (fun i=>tgs.length - i) 0 (by kernel_rfl) ⟨Nat.zero_le _,fun j hj=>by omega⟩ (Sub.of0 [(0,0)] rfl rfl ?_ ?_) ?_
  ·simp only [go_sem,scP,lastOf]
  ·simp only [go_sem,scP,runC]
  rintro i ⟨h1,h2⟩
  simp (disch:=first|assumption|(push_cast<;>omega)|omega) only [go_sem]
  refine AXc.introP (fun h3=>?_) (fun h3=>?_)
  ·have hi:i<tgs.length:=by omega
   have j1:=hja i hi
   have c1:=hca i (by omega)
   have it1:=it (tgs.getD i [])
   have iw1:=iw (ws.getD i [])
   have lo:=zmx h2
   have ls:=zoV T.length js i
   by_cases hk:js.getD i 0<T.length
   ·have e2:decide (((js.getD i 0:Nat):Int)=(T.length:Int))=false:=decide_eq_false (by omega)
    have n1:=zb3 N (lastOf T.length js i) (by omega)
    have n2:=v2 (lastOf T.length js i) lo
    have n3:=zb3 E (js.getD i 0) (by omega)
    have n4:=v4 (js.getD i 0) hk
    have hsp:scP M cs js (i+1)=tm (tm (scP M cs js i).2 ((nthR N (lastOf T.length js i)).getD (js.getD i 0) []) ((nthR E (js.getD i 0)).getD (cs.getD i 0) [])).2 (scP M cs js i).1 (tm (scP M cs js i).2 ((nthR N (lastOf T.length js i)).getD (js.getD i 0) []) ((nthR E (js.getD i 0)).getD (cs.getD i 0) [])).1:=by subst hM;rfl
    have l1:((nthR N (lastOf T.length js i)).getD (js.getD i 0) []).length≤1000000000:=by have:=(hl (lastOf T.length js i) (js.getD i 0)).1;subst hM;exact this
    have l2:((nthR E (js.getD i 0)).getD (cs.getD i 0) []).length≤1000000000:=by have:=(hl (js.getD i 0) (cs.getD i 0)).2;subst hM;exact this
    have l3:=zvS M cs js i
    have cb:cs.getD i 0≤W.length:=by omega
    generalize hA:(nthR N (lastOf T.length js i)).getD (js.getD i 0) []=A at l1 hsp
    generalize hB:(nthR E (js.getD i 0)).getD (cs.getD i 0) []=B at l2 hsp
    generalize scP M cs js i=pf at hsp l3 ⊢
    obtain⟨p,f⟩:=pf
    dsimp only at hsp l3 ⊢
    have t1:ΔR 36 [.ptr 0 0,.str A,.str B] ⟨[(0,.cells [.fs (strs T) T.length,.fs (strs W) W.length,.fs (zu N) N.length,.fs (zu E) E.length,.fs (nats .i64 cs) cs.length,.int .i64 f])],1⟩=some ⟨True,.str (tm f A B).1,⟨[(0,.cells [.fs (strs T) T.length,.fs (strs W) W.length,.fs (zu N) N.length,.fs (zu E) E.length,.fs (nats .i64 cs) cs.length,.int .i64 (tm f A B).2])],1⟩,[0],[0]⟩:=
     zgM 0 ⟨⟨T,W,N,E⟩,cs,f⟩ A B [(0,.cells [.fs (strs T) T.length,.fs (strs W) W.length,.fs (zu N) N.length,.fs (zu E) E.length,.fs (nats .i64 cs) cs.length,.int .i64 f])] 1 l1 l2 rfl rfl
    have lx:=zf4 f A B
    generalize tm f A B=x at hsp t1 lx
    obtain⟨x1,x2⟩:=x
    dsimp only at hsp t1 lx
    have t2:ΔR 36 [.ptr 0 0,.str p,.str x1] ⟨[(0,.cells [.fs (strs T) T.length,.fs (strs W) W.length,.fs (zu N) N.length,.fs (zu E) E.length,.fs (nats .i64 cs) cs.length,.int .i64 x2])],1⟩=some ⟨True,.str (tm x2 p x1).1,⟨[(0,.cells [.fs (strs T) T.length,.fs (strs W) W.length,.fs (zu N) N.length,.fs (zu E) E.length,.fs (nats .i64 cs) cs.length,.int .i64 (tm x2 p x1).2])],1⟩,[0],[0]⟩:=
     zgM 0 ⟨⟨T,W,N,E⟩,cs,x2⟩ p x1 [(0,.cells [.fs (strs T) T.length,.fs (strs W) W.length,.fs (zu N) N.length,.fs (zu E) E.length,.fs (nats .i64 cs) cs.length,.int .i64 x2])] 1 (by omega) (by omega) rfl rfl
    simp (disch:=first|assumption|(push_cast<;>omega)|omega) only [go_sem, ←j1,e2]
    (repeat refine sdC ?_)
    simp (disch:=first|assumption|(push_cast<;>omega)|omega) only [go_sem,n1,n3,hA,hB,t1,t2]
    (repeat refine sdC ?_)
    simp (disch:=first|assumption|(push_cast<;>omega)|omega) only [go_sem]
    refine zk (i+1) ⟨by omega,fun j hj=>?_⟩ (by omega) ?_
    ·by_cases hji:j<i
     ·exact h2 j hji
     ·obtain rfl:j=i:=by omega
      exact hk
    rw [hsp,ls]
    refine Sub.of0 [(0,0)] rfl rfl ?_ ?_
    ·simp only [go_sem]
     simp
    ·simp only [go_sem]
   ·have e2:decide (((js.getD i 0:Nat):Int)=(T.length:Int))=true:=decide_eq_true (by omega)
    have hR:=hr1 fun h=>hk (h _ (by rw [List.getD_eq_getElem?_getD,List.getElem?_eq_getElem (by omega)];exact List.getElem_mem _))
    rw [hR]
    simp (disch:=first|assumption|(push_cast<;>omega)|omega) only [go_sem, ←j1,e2]
    (repeat refine sdC ?_)
    refine AXa.go mixed (hΓ) (zp3) (by kernel_rfl) ?_
    simp (disch:=first|assumption|(push_cast<;>omega)|omega) only [go_sem]
  ·obtain rfl:i=tgs.length:=by omega
   have lo:=zmx h2
   have hall:∀ t∈js,t<T.length:=fun t ht=>by obtain⟨k,hk,rfl⟩:=List.mem_iff_getElem.1 ht;have:=h2 k (by omega);rwa [List.getD_eq_getElem?_getD,List.getElem?_eq_getElem hk]at this
   have hR:=hr2 hall
   have n1:=zb3 N (lastOf T.length js tgs.length) (by omega)
   have n2:=v2 (lastOf T.length js tgs.length) lo
   have hsf:scF M cs js=tm (scP M cs js tgs.length).2 (scP M cs js tgs.length).1 ((nthR N (lastOf T.length js tgs.length)).getD T.length []):=by rw [←hjl];subst hM;rfl
   have l1:((nthR N (lastOf T.length js tgs.length)).getD T.length []).length≤1000000000:=by have:=(hl (lastOf T.length js tgs.length) T.length).1;subst hM;exact this
   have l3:=zvS M cs js tgs.length
   rw [hsf]at hR
   generalize scP M cs js tgs.length=pf at hR l3 ⊢
   obtain⟨p,f⟩:=pf
   dsimp only at hR l3 ⊢
   have q2:ΔR 34 [.ptr 0 0] ⟨[(0,.cells [.fs (strs T) T.length,.fs (strs W) W.length,.fs (zu N) N.length,.fs (zu E) E.length,.fs (nats .i64 cs) cs.length,.int .i64 f])],1⟩=some ⟨True,.int .i64 T.length,⟨[(0,.cells [.fs (strs T) T.length,.fs (strs W) W.length,.fs (zu N) N.length,.fs (zu E) E.length,.fs (nats .i64 cs) cs.length,.int .i64 f])],1⟩,[0],[]⟩:=zp4 0 ⟨⟨T,W,N,E⟩,cs,f⟩ [(0,.cells [.fs (strs T) T.length,.fs (strs W) W.length,.fs (zu N) N.length,.fs (zu E) E.length,.fs (nats .i64 cs) cs.length,.int .i64 f])] 1 (by dsimp only;omega) rfl rfl
   have q3:ΔR 36 [.ptr 0 0,.str p,.str ((nthR N (lastOf T.length js tgs.length)).getD T.length [])] ⟨[(0,.cells [.fs (strs T) T.length,.fs (strs W) W.length,.fs (zu N) N.length,.fs (zu E) E.length,.fs (nats .i64 cs) cs.length,.int .i64 f])],1⟩=some ⟨True,.str (tm f p ((nthR N (lastOf T.length js tgs.length)).getD T.length [])).1,⟨[(0,.cells [.fs (strs T) T.length,.fs (strs W) W.length,.fs (zu N) N.length,.fs (zu E) E.length,.fs (nats .i64 cs) cs.length,.int .i64 (tm f p ((nthR N (lastOf T.length js tgs.length)).getD T.length [])).2])],1⟩,[0],[0]⟩:=
    zgM 0 ⟨⟨T,W,N,E⟩,cs,f⟩ p _ [(0,.cells [.fs (strs T) T.length,.fs (strs W) W.length,.fs (zu N) N.length,.fs (zu E) E.length,.fs (nats .i64 cs) cs.length,.int .i64 f])] 1 (by omega) l1 rfl rfl
   generalize tm f p ((nthR N (lastOf T.length js tgs.length)).getD T.length [])=z at hR q3
   simp (disch:=first|assumption|(push_cast<;>omega)|omega) only [go_sem]
   refine AXa.go mixed (hΓ) (zp3) (by kernel_rfl) ?_
   simp (disch:=first|assumption|(push_cast<;>omega)|omega) only [go_sem,q2,n1,q3]
   (repeat refine sdC ?_)
   simp (disch:=first|assumption|(push_cast<;>omega)|omega) only [go_sem]
   refine AXc.introN (fun h8=>?_) (fun h8=>?_)
   ·rw [if_pos h8]at hR
    rw [hR]
    simp (disch:=first|assumption|(push_cast<;>omega)|omega) only [go_sem]
    refine AXk.intro (by kernel_rfl) ?_
    simp (disch:=first|assumption|(push_cast<;>omega)|omega) only [go_sem]
   ·rw [if_neg (fun k=>k h8)]at hR
    rw [hR]
    simp (disch:=first|assumption|(push_cast<;>omega)|omega) only [go_sem]
end Go.Proofs

namespace Go.Proofs
open Go.Ab Go.Cnt Go.Pl Go.Tg
theorem pmul_err {a b:Str}(h:(pmul a b).2≠0):(pmul a b).1=[]:=by
 unfold pmul zaO at h ⊢;split
 ·unfold mkV;split
  ·rfl
  ·rename_i e1 e2 hh;exfalso;apply h;unfold mkV;rw [e1,e2];dsimp only;rw [if_neg hh];rfl
 ·rfl
noncomputable def zcv(m:Mdl)(ws tgs:List Str):Str×Int:=
 if (vmB m&&zci ws)=false∨tgs.length≠ws.length then([],1)else if ¬∀ t∈zbo m tgs,t<m.tags.length then([],4)else prob m (zq m ws) (zbo m tgs)
end Go.Proofs

namespace Go.Proofs
open Go.Ab
theorem za4:Tryz.prog.follows .mixedOrders=true:=by kernel_rfl
end Go.Proofs

namespace Go.Ab
variable {P:Program}
abbrev FTab:=List (List V×V)
abbrev Tab:=List (FuncId×FTab)
def eqS:List UInt8→List UInt8→Bool
 |[],[]=>true
 |a::r,b::s=>Nat.beq a.toNat b.toNat&&eqS r s
 |_,_=>false
theorem eqS_eq:∀ {a b:List UInt8},eqS a b=true→a=b
 |[],b,h=>by cases b<;>simp [eqS]at h;rfl
 |x::r,b,h=>by
  cases b with
  |nil=>simp [eqS]at h
  |cons y s=>simp [eqS]at h;rw [eqS_eq h.2,UInt8.toNat_inj.1 h.1]
def eqA:V→V→Bool
 | .str a,.str b=>eqS a b
 | .int k a,.int k' b=>decide (k=k')&&decide (a=b)
 | .bool a,.bool b=>a==b
 |_,_=>false
def eqAs:List V→List V→Bool
 |[],[]=>true
 |a::r,b::s=>eqA a b&&eqAs r s
 |_,_=>false
theorem eqA_eq {a b:V}(h:eqA a b=true):a=b∧Pure a:=by
 unfold eqA at h;split at h
 ·exact⟨by rw [eqS_eq h],.str _⟩
 ·simp at h;exact⟨by rw [h.1,h.2],.int _ _⟩
 ·simp at h;exact⟨by rw [h],.bool _⟩
 ·cases h
theorem zyj:∀ {a b:List V},eqAs a b=true→a=b
 |[],b,h=>by cases b<;>simp [eqAs]at h;rfl
 |x::r,b,h=>by
  cases b with
  |nil=>simp [eqAs]at h
  |cons y s=>simp [eqAs]at h;rw [(eqA_eq h.1).1,zyj h.2]
def tabGo(L:FTab)(args:List V):Option PR:=
 match L with
 |[]=>none
 |q::r=>match eqAs q.1 args with
  |true=>some (.ret q.2)
  |false=>tabGo r args
def tabF(T:Tab)(f:FuncId)(args:List V):Option PR:=
 match T with
 |[]=>none
 |e::r=>match Nat.beq e.1 f with
  |true=>tabGo e.2 args
  |false=>tabF r f args
def FTabOK(P:Program)(f:FuncId)(L:FTab):Prop:=∀ q∈L,PCall P f q.1 (.ret q.2)
theorem FTabOK.nil {f:FuncId}:FTabOK P f []:=fun _ h=>by cases h
theorem FTabOK.append {f:FuncId}{L M:FTab}(h:FTabOK P f L)(k:FTabOK P f M):FTabOK P f (L++M):=fun q hq=>(List.mem_append.1 hq).elim (h q) (k q)
def TabOK(P:Program)(T:Tab):Prop:=∀ e∈T,FTabOK P e.1 e.2
theorem TabOK.nil:TabOK P []:=fun _ h=>by cases h
theorem TabOK.cons {f:FuncId}{L:FTab}{T:Tab}(h:FTabOK P f L)(k:TabOK P T):TabOK P ((f,L)::T):=fun e he=>by
 rcases List.mem_cons.1 he with rfl|he
 ·exact h
 ·exact k e he
theorem zqg {f:FuncId}{args:List V}{r:PR}:∀ {L:FTab},FTabOK P f L→tabGo L args=some r→PCall P f args r
 |[],_,h=>by cases h
 |q::L,ok,h=>by
  unfold tabGo at h;split at h
  ·rename_i e;cases h;rw [←zyj e];exact ok q (List.mem_cons_self ..)
  ·exact zqg (fun q hq=>ok q (List.mem_cons_of_mem _ hq)) h
theorem zvr {f:FuncId}{args:List V}{r:PR}:∀ {T:Tab},TabOK P T→tabF T f args=some r→PCall P f args r
 |[],_,h=>by cases h
 |e::T,ok,h=>by
  unfold tabF at h;split at h
  ·rename_i q;have q':=Nat.eq_of_beq_eq_true q;subst q';exact zqg (ok e (List.mem_cons_self ..)) h
  ·exact zvr (fun e he=>ok e (List.mem_cons_of_mem _ he)) h
noncomputable def chkT(E:ECfg)(P:Program)(n:Nat)(f:FuncId)(L:FTab):Bool:=
 match L with
 |[]=>true
 |q::r=>
  match eAns E P n f q.1 with
  |some v=>beqV v q.2&&eqAs q.1 q.1&&chkT E P n f r
  |none=>false
theorem zmW:∀ {a:List V},eqAs a a=true→∀ x∈a,Pure x
 |y::r,h,x,hx=>by
  simp [eqAs]at h;rcases List.mem_cons.1 hx with rfl|hx
  ·exact(eqA_eq h.1).2
  ·exact zmW h.2 x hx
theorem zaz {E:ECfg}(hm:P.follows .mixedOrders=true)(hΓ:∀ f args r,E.Γ f args=some r→PCall P f args r)(hcan:∀ f,E.can f=true→zi P f)(hsp:zgK P E)
 {n:Nat} {f:FuncId}:∀ {L:FTab},chkT E P n f L=true→FTabOK P f L
 |[],_=>FTabOK.nil
 |q::L,h=>by
  unfold chkT at h;split at h;rotate_left;·cases h
  rename_i v hv;simp only [Bool.and_eq_true]at h;intro q' hq;rcases List.mem_cons.1 hq with rfl|hq
  ·have:=zyq hm hΓ hcan hsp (zmW h.1.2) hv;rw [zia h.1.1]at this;exact this
  ·exact zaz hm hΓ hcan hsp h.2 q' hq
def zgU(E:ECfg)(T:Tab):ECfg:={ E with Γ:=fun f args=>match tabF T f args with|some r=>some r|none=>E.Γ f args }
theorem zea {E:ECfg}{T:Tab}(hΓ:∀ f args r,E.Γ f args=some r→PCall P f args r)(hT:TabOK P T):∀ f args r,(zgU E T).Γ f args=some r→PCall P f args r:=by
 intro f args r h;have h':(match tabF T f args with|some r=>some r|none=>E.Γ f args)=some r:=h;split at h'
 ·rename_i r' hr;cases h';exact zvr hT hr
 ·exact hΓ f args r h'
end Go.Ab

namespace Go.Proofs
open Tryz Go.Ab
theorem can1:((List.range (260+1)).all fun f=>[0,1,236,247,251,258].contains f||canB prog f)=true:=by kernel_rfl
def zx6(args:List V):Option PR:=
 match args with
 |[.str s,.int .u8 n]=>bif decide (0≤n)&&decide (n<256)then some (.ret (.int .i64 (ixB s (UInt8.ofNat n.toNat))))else none
 |_=>none
theorem zx5(args:List V)(r:PR)(h:zx6 args=some r):PCall prog 251 args r:=by
 unfold zx6 at h;split at h
 ·rename_i s n;cases hc:(decide (0≤n)&&decide (n<256))with
  |false=>rw [hc]at h;cases h
  |true=>
   rw [hc]at h;cases h;simp only [Bool.and_eq_true,decide_eq_true_eq]at hc;have e:((UInt8.ofNat n.toNat).toNat:Int)=n:=by simp;omega
   have:=zqW s (UInt8.ofNat n.toNat);rw [e]at this;exact this
 ·cases h
def Γ1(f:FuncId)(args:List V):Option PR:=bif Nat.beq f 251 then zx6 args else none
theorem zlA:∀ f args r,Γ1 f args=some r→PCall prog f args r:=by
 intro f args r h;unfold Γ1 at h;cases hf:Nat.beq f 251 with
 |false=>rw [hf]at h;cases h
 |true=>rw [hf]at h;rw [Nat.eq_of_beq_eq_true hf];exact zx5 _ _ h
def wr1(f:FuncId):Nat:=bif Nat.beq f 245||Nat.beq f 208||Nat.beq f 230||Nat.beq f 171 then 1 else bif Nat.beq f 210||Nat.beq f 212 then 2 else 0
def E1:ECfg:=⟨Γ1,canL [0,1,236,247,251,258] 260,wr1,fun _=>false,100000,spec1⟩
def TAL150:List (List V×V):=[([.str [48]],.bool true),
 ([.str [49]],.bool true),
 ([.str [52]],.bool true),
 ([.str [50]],.bool true),
 ([.str [51]],.bool true),
 ([.str [49,54]],.bool true),
 ([.str [56]],.bool true),
 ([.str [51,50]],.bool true),
 ([.str [49,50,56]],.bool true),
 ([.str [50,53,54]],.bool true)]
theorem zAW:FTabOK prog 150 TAL150:=zaz (E:=E1) (n:=60) za4 zlA (zaA can1) (zab rfl) (by kernel_rfl)
def TAL154:List (List V×V):=[([.str [48],.str [45]],.tup [.str [48],.bool false]),
 ([.str [49],.str [45]],.tup [.str [49],.bool false]),
 ([.str [49,47,52],.str [45]],.tup [.str [49,47,52],.bool false]),
 ([.str [49,47,50],.str [45]],.tup [.str [49,47,50],.bool false]),
 ([.str [51,47,52],.str [45]],.tup [.str [51,47,52],.bool false]),
 ([.str [51,47,49,54],.str [45]],.tup [.str [51,47,49,54],.bool false]),
 ([.str [49,47,56],.str [45]],.tup [.str [49,47,56],.bool false]),
 ([.str [49,47,51,50],.str [45]],.tup [.str [49,47,51,50],.bool false]),
 ([.str [51,47,56],.str [45]],.tup [.str [51,47,56],.bool false]),
 ([.str [49,47,49,54],.str [45]],.tup [.str [49,47,49,54],.bool false]),
 ([.str [51,47,49,50,56],.str [45]],.tup [.str [51,47,49,50,56],.bool false]),
 ([.str [51,47,50,53,54],.str [45]],.tup [.str [51,47,50,53,54],.bool false])]
theorem zAV:FTabOK prog 154 TAL154:=zaz (E:=E1) (n:=60) za4 zlA (zaA can1) (zab rfl) (by kernel_rfl)
def TAL155:List (List V×V):=[([.str [48],.str [47]],.tup [.str [48],.str [],.bool false]),
 ([.str [49],.str [47]],.tup [.str [49],.str [],.bool false]),
 ([.str [49,47,52],.str [47]],.tup [.str [49],.str [52],.bool true]),
 ([.str [49,47,50],.str [47]],.tup [.str [49],.str [50],.bool true]),
 ([.str [51,47,52],.str [47]],.tup [.str [51],.str [52],.bool true]),
 ([.str [51,47,49,54],.str [47]],.tup [.str [51],.str [49,54],.bool true]),
 ([.str [49,47,56],.str [47]],.tup [.str [49],.str [56],.bool true]),
 ([.str [49,47,51,50],.str [47]],.tup [.str [49],.str [51,50],.bool true]),
 ([.str [51,47,56],.str [47]],.tup [.str [51],.str [56],.bool true]),
 ([.str [49,47,49,54],.str [47]],.tup [.str [49],.str [49,54],.bool true]),
 ([.str [51,47,49,50,56],.str [47]],.tup [.str [51],.str [49,50,56],.bool true]),
 ([.str [51,47,50,53,54],.str [47]],.tup [.str [51],.str [50,53,54],.bool true])]
theorem zAU:FTabOK prog 155 TAL155:=zaz (E:=E1) (n:=60) za4 zlA (zaA can1) (zab rfl) (by kernel_rfl)
def TAL128:List (List V×V):=[([.str [49]],.bool true),
 ([.str [48]],.bool true),
 ([.str [50]],.bool true),
 ([.str [51]],.bool true),
 ([.str [52]],.bool true),
 ([.str [49,54]],.bool true),
 ([.str [56]],.bool true)]
theorem zA1:FTabOK prog 128 TAL128:=zaz (E:=E1) (n:=60) za4 zlA (zaA can1) (zab rfl) (by kernel_rfl)
def TTA0:Tab:=[(150,TAL150),(154,TAL154),(155,TAL155),(128,TAL128)]
theorem TTA0_ok:TabOK prog TTA0:=TabOK.cons zAW (TabOK.cons zAV (TabOK.cons zAU (TabOK.cons zA1 (TabOK.nil))))
noncomputable def ETA0:ECfg:=zgU E1 TTA0
theorem zcG:∀ f args r,ETA0.Γ f args=some r→PCall prog f args r:=zea zlA TTA0_ok
def TAL115:List (List V×V):=[([.str [48],.str [49]],.tup [.str [48],.int .i64 0]),
 ([.str [49],.str [49]],.tup [.str [49],.int .i64 0]),
 ([.str [48],.str [52]],.tup [.str [48],.int .i64 0]),
 ([.str [49],.str [52]],.tup [.str [52],.int .i64 0]),
 ([.str [48],.str [50]],.tup [.str [48],.int .i64 0]),
 ([.str [49],.str [50]],.tup [.str [50],.int .i64 0]),
 ([.str [51],.str [49]],.tup [.str [51],.int .i64 0]),
 ([.str [49],.str [48]],.tup [.str [48],.int .i64 0]),
 ([.str [50],.str [49]],.tup [.str [50],.int .i64 0]),
 ([.str [49],.str [51]],.tup [.str [51],.int .i64 0]),
 ([.str [52],.str [52]],.tup [.str [49,54],.int .i64 0]),
 ([.str [48],.str [51]],.tup [.str [48],.int .i64 0]),
 ([.str [49],.str [49,54]],.tup [.str [49,54],.int .i64 0]),
 ([.str [50],.str [52]],.tup [.str [56],.int .i64 0]),
 ([.str [49],.str [56]],.tup [.str [56],.int .i64 0]),
 ([.str [48],.str [56]],.tup [.str [48],.int .i64 0]),
 ([.str [48],.str [48]],.tup [.str [48],.int .i64 0]),
 ([.str [52],.str [49]],.tup [.str [52],.int .i64 0]),
 ([.str [56],.str [52]],.tup [.str [51,50],.int .i64 0]),
 ([.str [48],.str [51,50]],.tup [.str [48],.int .i64 0]),
 ([.str [56],.str [49]],.tup [.str [56],.int .i64 0]),
 ([.str [51,50],.str [49]],.tup [.str [51,50],.int .i64 0]),
 ([.str [56],.str [50]],.tup [.str [49,54],.int .i64 0]),
 ([.str [48],.str [49,54]],.tup [.str [48],.int .i64 0]),
 ([.str [51],.str [48]],.tup [.str [48],.int .i64 0]),
 ([.str [56],.str [49,54]],.tup [.str [49,50,56],.int .i64 0]),
 ([.str [48],.str [49,50,56]],.tup [.str [48],.int .i64 0]),
 ([.str [49,50,56],.str [50]],.tup [.str [50,53,54],.int .i64 0]),
 ([.str [48],.str [50,53,54]],.tup [.str [48],.int .i64 0]),
 ([.str [49],.str [49,50,56]],.tup [.str [49,50,56],.int .i64 0]),
 ([.str [49],.str [50,53,54]],.tup [.str [50,53,54],.int .i64 0])]
theorem zA2:FTabOK prog 115 TAL115:=zaz (E:=ETA0) (n:=60) za4 zcG (zaA can1) (zab rfl) (by kernel_rfl)
def TAL156:List (List V×V):=[([.str [48],.str [48]],.tup [.str [48],.int .i64 0]),
 ([.str [48],.str [51]],.tup [.str [51],.int .i64 0])]
theorem zAT:FTabOK prog 156 TAL156:=zaz (E:=ETA0) (n:=60) za4 zcG (zaA can1) (zab rfl) (by kernel_rfl)
def TAL157:List (List V×V):=[([.str [48],.str [48]],.int .i64 0),
 ([.str [48],.str [49]],.int .i64 (-1)),
 ([.str [49],.str [48]],.int .i64 1),
 ([.str [49],.str [49]],.int .i64 0),
 ([.str [49],.str [52]],.int .i64 (-1)),
 ([.str [49],.str [50]],.int .i64 (-1)),
 ([.str [51],.str [48]],.int .i64 1),
 ([.str [51],.str [52]],.int .i64 (-1)),
 ([.str [48],.str [51]],.int .i64 (-1))]
theorem zAS:FTabOK prog 157 TAL157:=zaz (E:=ETA0) (n:=60) za4 zcG (zaA can1) (zab rfl) (by kernel_rfl)
def TAL158:List (List V×V):=[([.str [48],.str [48]],.tup [.str [48],.int .i64 0]),
 ([.str [49],.str [48]],.tup [.str [49],.int .i64 0]),
 ([.str [49],.str [49]],.tup [.str [48],.int .i64 0]),
 ([.str [52],.str [49]],.tup [.str [51],.int .i64 0]),
 ([.str [50],.str [49]],.tup [.str [49],.int .i64 0]),
 ([.str [51],.str [48]],.tup [.str [51],.int .i64 0]),
 ([.str [52],.str [51]],.tup [.str [49],.int .i64 0])]
theorem zAR:FTabOK prog 158 TAL158:=zaz (E:=ETA0) (n:=60) za4 zcG (zaA can1) (zab rfl) (by kernel_rfl)
def TAL148:List (List V×V):=[([.str [48],.str [49]],.tup [.str [49],.int .i64 0]),
 ([.str [49],.str [49]],.tup [.str [49],.int .i64 0]),
 ([.str [49],.str [52]],.tup [.str [49],.int .i64 0]),
 ([.str [49],.str [50]],.tup [.str [49],.int .i64 0]),
 ([.str [51],.str [52]],.tup [.str [49],.int .i64 0]),
 ([.str [48],.str [50]],.tup [.str [50],.int .i64 0]),
 ([.str [51],.str [49,54]],.tup [.str [49],.int .i64 0]),
 ([.str [48],.str [49,54]],.tup [.str [49,54],.int .i64 0]),
 ([.str [49],.str [56]],.tup [.str [49],.int .i64 0]),
 ([.str [49],.str [51,50]],.tup [.str [49],.int .i64 0]),
 ([.str [48],.str [52]],.tup [.str [52],.int .i64 0]),
 ([.str [48],.str [56]],.tup [.str [56],.int .i64 0]),
 ([.str [48],.str [51,50]],.tup [.str [51,50],.int .i64 0]),
 ([.str [51],.str [56]],.tup [.str [49],.int .i64 0]),
 ([.str [49],.str [49,54]],.tup [.str [49],.int .i64 0]),
 ([.str [51],.str [49,50,56]],.tup [.str [49],.int .i64 0]),
 ([.str [51],.str [50,53,54]],.tup [.str [49],.int .i64 0])]
theorem zAY:FTabOK prog 148 TAL148:=zaz (E:=ETA0) (n:=60) za4 zcG (zaA can1) (zab rfl) (by kernel_rfl)
def TAL181:List (List V×V):=[([.str [48],.str [50]],.tup [.str [48],.str [48],.int .i64 0]),
 ([.str [50],.str [50]],.tup [.str [49],.str [48],.int .i64 0]),
 ([.str [48],.str [49]],.tup [.str [48],.str [48],.int .i64 0]),
 ([.str [49],.str [49]],.tup [.str [49],.str [48],.int .i64 0]),
 ([.str [51],.str [49]],.tup [.str [51],.str [48],.int .i64 0]),
 ([.str [49,54],.str [49]],.tup [.str [49,54],.str [48],.int .i64 0]),
 ([.str [48],.str [49,54]],.tup [.str [48],.str [48],.int .i64 0]),
 ([.str [49,54],.str [49,54]],.tup [.str [49],.str [48],.int .i64 0]),
 ([.str [56],.str [49]],.tup [.str [56],.str [48],.int .i64 0]),
 ([.str [52],.str [49]],.tup [.str [52],.str [48],.int .i64 0]),
 ([.str [51,50],.str [49]],.tup [.str [51,50],.str [48],.int .i64 0]),
 ([.str [48],.str [52]],.tup [.str [48],.str [48],.int .i64 0]),
 ([.str [52],.str [52]],.tup [.str [49],.str [48],.int .i64 0]),
 ([.str [48],.str [56]],.tup [.str [48],.str [48],.int .i64 0]),
 ([.str [56],.str [56]],.tup [.str [49],.str [48],.int .i64 0]),
 ([.str [48],.str [51,50]],.tup [.str [48],.str [48],.int .i64 0]),
 ([.str [51,50],.str [51,50]],.tup [.str [49],.str [48],.int .i64 0]),
 ([.str [50],.str [49]],.tup [.str [50],.str [48],.int .i64 0]),
 ([.str [49,50,56],.str [49]],.tup [.str [49,50,56],.str [48],.int .i64 0]),
 ([.str [50,53,54],.str [49]],.tup [.str [50,53,54],.str [48],.int .i64 0])]
theorem zAQ:FTabOK prog 181 TAL181:=zaz (E:=ETA0) (n:=60) za4 zcG (zaA can1) (zab rfl) (by kernel_rfl)
def TAL89:List (List V×V):=[([.str [49],.str [49]],.tup [.str [49],.int .i64 0]),
 ([.str [48],.str [49]],.tup [.str [48],.int .i64 0]),
 ([.str [48],.str [50]],.tup [.str [48],.int .i64 0]),
 ([.str [51],.str [49]],.tup [.str [51],.int .i64 0]),
 ([.str [48],.str [52]],.tup [.str [48],.int .i64 0]),
 ([.str [48],.str [49,54]],.tup [.str [48],.int .i64 0]),
 ([.str [49],.str [50]],.tup [.str [50],.int .i64 0]),
 ([.str [49],.str [51]],.tup [.str [51],.int .i64 0]),
 ([.str [50],.str [52]],.tup [.str [56],.int .i64 0]),
 ([.str [48],.str [56]],.tup [.str [48],.int .i64 0]),
 ([.str [56],.str [50]],.tup [.str [49,54],.int .i64 0])]
theorem TAL89_ok:FTabOK prog 89 TAL89:=zaz (E:=ETA0) (n:=60) za4 zcG (zaA can1) (zab rfl) (by kernel_rfl)
def TAL88:List (List V×V):=[([.str [49],.str [48]],.tup [.str [49],.int .i64 0]),
 ([.str [51],.str [48]],.tup [.str [51],.int .i64 0]),
 ([.str [48],.str [48]],.tup [.str [48],.int .i64 0])]
theorem TAL88_ok:FTabOK prog 88 TAL88:=zaz (E:=ETA0) (n:=60) za4 zcG (zaA can1) (zab rfl) (by kernel_rfl)
def TAL87:List (List V×V):=[([.str [49],.str [48]],.int .i64 1),
 ([.str [51],.str [48]],.int .i64 1),
 ([.str [48],.str [48]],.int .i64 0),
 ([.str [48],.str [49]],.int .i64 (-1)),
 ([.str [48],.str [51]],.int .i64 (-1))]
theorem TAL87_ok:FTabOK prog 87 TAL87:=zaz (E:=ETA0) (n:=60) za4 zcG (zaA can1) (zab rfl) (by kernel_rfl)
def TAL129:List (List V×V):=[([.str [49],.str [49]],.tup [.str [49],.str [48],.int .i64 0]),
 ([.str [48],.str [49]],.tup [.str [48],.str [48],.int .i64 0]),
 ([.str [49],.str [50]],.tup [.str [48],.str [49],.int .i64 0]),
 ([.str [50],.str [49]],.tup [.str [50],.str [48],.int .i64 0]),
 ([.str [51],.str [52]],.tup [.str [48],.str [51],.int .i64 0]),
 ([.str [52],.str [51]],.tup [.str [49],.str [49],.int .i64 0]),
 ([.str [51],.str [49]],.tup [.str [51],.str [48],.int .i64 0]),
 ([.str [51],.str [49,54]],.tup [.str [48],.str [51],.int .i64 0]),
 ([.str [49,54],.str [51]],.tup [.str [53],.str [49],.int .i64 0]),
 ([.str [51],.str [56]],.tup [.str [48],.str [51],.int .i64 0]),
 ([.str [56],.str [51]],.tup [.str [50],.str [50],.int .i64 0]),
 ([.str [51],.str [50]],.tup [.str [49],.str [49],.int .i64 0]),
 ([.str [56],.str [49]],.tup [.str [56],.str [48],.int .i64 0]),
 ([.str [49,54],.str [49]],.tup [.str [49,54],.str [48],.int .i64 0])]
theorem zA0:FTabOK prog 129 TAL129:=zaz (E:=ETA0) (n:=60) za4 zcG (zaA can1) (zab rfl) (by kernel_rfl)
def TTA1:Tab:=[(115,TAL115),(156,TAL156),(157,TAL157),(158,TAL158),(148,TAL148),(181,TAL181),(89,TAL89),(88,TAL88),(87,TAL87),(129,TAL129)]
theorem TTA1_ok:TabOK prog TTA1:=TabOK.cons zA2 (TabOK.cons zAT (TabOK.cons zAS (TabOK.cons zAR (TabOK.cons zAY (TabOK.cons zAQ (TabOK.cons TAL89_ok (TabOK.cons TAL88_ok (TabOK.cons TAL87_ok (TabOK.cons zA0 (TabOK.nil))))))))))
noncomputable def ETA1:ECfg:=zgU ETA0 TTA1
theorem zp2:∀ f args r,ETA1.Γ f args=some r→PCall prog f args r:=zea zcG TTA1_ok
def TAL85:List (List V×V):=[([.str [49],.str [49]],.tup [.str [49],.int .i64 0]),
 ([.str [48],.str [49]],.tup [.str [49],.int .i64 0]),
 ([.str [49],.str [50]],.tup [.str [49],.int .i64 0]),
 ([.str [51],.str [52]],.tup [.str [49],.int .i64 0]),
 ([.str [51],.str [49,54]],.tup [.str [49],.int .i64 0]),
 ([.str [51],.str [56]],.tup [.str [49],.int .i64 0])]
theorem TAL85_ok:FTabOK prog 85 TAL85:=zaz (E:=ETA1) (n:=60) za4 zp2 (zaA can1) (zab rfl) (by kernel_rfl)
def TAL149:List (List V×V):=[([.str [48],.str [50]],.str [48]),
 ([.str [50],.str [50]],.str [49]),
 ([.str [48],.str [49]],.str [48]),
 ([.str [49],.str [49]],.str [49]),
 ([.str [51],.str [49]],.str [51]),
 ([.str [49,54],.str [49]],.str [49,54]),
 ([.str [48],.str [49,54]],.str [48]),
 ([.str [49,54],.str [49,54]],.str [49]),
 ([.str [56],.str [49]],.str [56]),
 ([.str [52],.str [49]],.str [52]),
 ([.str [51,50],.str [49]],.str [51,50]),
 ([.str [48],.str [52]],.str [48]),
 ([.str [52],.str [52]],.str [49]),
 ([.str [48],.str [56]],.str [48]),
 ([.str [56],.str [56]],.str [49]),
 ([.str [48],.str [51,50]],.str [48]),
 ([.str [51,50],.str [51,50]],.str [49]),
 ([.str [50],.str [49]],.str [50]),
 ([.str [49,50,56],.str [49]],.str [49,50,56]),
 ([.str [50,53,54],.str [49]],.str [50,53,54])]
theorem zAX:FTabOK prog 149 TAL149:=zaz (E:=ETA1) (n:=60) za4 zp2 (zaA can1) (zab rfl) (by kernel_rfl)
def TTA2:Tab:=[(85,TAL85),(149,TAL149)]
theorem TTA2_ok:TabOK prog TTA2:=TabOK.cons TAL85_ok (TabOK.cons zAX (TabOK.nil))
noncomputable def ETA2:ECfg:=zgU ETA1 TTA2
theorem zdF:∀ f args r,ETA2.Γ f args=some r→PCall prog f args r:=zea zp2 TTA2_ok
def TAL69:List (List V×V):=[([.str [49,47,50],.str [48]],.tup [.str [48],.int .i64 0]),
 ([.str [49],.str [48]],.tup [.str [48],.int .i64 0]),
 ([.str [49,47,52],.str [51,47,52]],.tup [.str [51,47,49,54],.int .i64 0]),
 ([.str [48],.str [51,47,49,54]],.tup [.str [48],.int .i64 0]),
 ([.str [48],.str [49,47,50]],.tup [.str [48],.int .i64 0]),
 ([.str [49,47,50],.str [49,47,52]],.tup [.str [49,47,56],.int .i64 0]),
 ([.str [49],.str [49,47,56]],.tup [.str [49,47,56],.int .i64 0]),
 ([.str [48],.str [49]],.tup [.str [48],.int .i64 0]),
 ([.str [48],.str [48]],.tup [.str [48],.int .i64 0]),
 ([.str [49,47,52],.str [49]],.tup [.str [49,47,52],.int .i64 0]),
 ([.str [49,47,56],.str [49,47,52]],.tup [.str [49,47,51,50],.int .i64 0]),
 ([.str [49,47,52],.str [48]],.tup [.str [48],.int .i64 0]),
 ([.str [49,47,56],.str [48]],.tup [.str [48],.int .i64 0]),
 ([.str [49,47,51,50],.str [48]],.tup [.str [48],.int .i64 0]),
 ([.str [49,47,50],.str [51,47,52]],.tup [.str [51,47,56],.int .i64 0]),
 ([.str [49],.str [51,47,56]],.tup [.str [51,47,56],.int .i64 0]),
 ([.str [51,47,56],.str [49,47,50]],.tup [.str [51,47,49,54],.int .i64 0]),
 ([.str [49,47,50],.str [49]],.tup [.str [49,47,50],.int .i64 0]),
 ([.str [49],.str [49,47,50]],.tup [.str [49,47,50],.int .i64 0]),
 ([.str [49],.str [51,47,52]],.tup [.str [51,47,52],.int .i64 0]),
 ([.str [51,47,56],.str [48]],.tup [.str [48],.int .i64 0]),
 ([.str [49],.str [49,47,52]],.tup [.str [49,47,52],.int .i64 0]),
 ([.str [48],.str [49,47,52]],.tup [.str [48],.int .i64 0]),
 ([.str [49,47,52],.str [49,47,52]],.tup [.str [49,47,49,54],.int .i64 0]),
 ([.str [51,47,56],.str [49,47,49,54]],.tup [.str [51,47,49,50,56],.int .i64 0]),
 ([.str [51,47,49,50,56],.str [49,47,50]],.tup [.str [51,47,50,53,54],.int .i64 0])]
theorem TAL69_ok:FTabOK prog 69 TAL69:=zaz (E:=ETA2) (n:=60) za4 zdF (zaA can1) (zab rfl) (by kernel_rfl)
def TAL70:List (List V×V):=[([.str [48],.str [48]],.int .i64 0),
 ([.str [48],.str [49]],.int .i64 (-1)),
 ([.str [49],.str [48]],.int .i64 1),
 ([.str [49],.str [49]],.int .i64 0),
 ([.str [49,47,52],.str [48]],.int .i64 1),
 ([.str [49,47,52],.str [49]],.int .i64 (-1)),
 ([.str [49,47,50],.str [48]],.int .i64 1),
 ([.str [49,47,50],.str [49]],.int .i64 (-1)),
 ([.str [51,47,52],.str [48]],.int .i64 1),
 ([.str [51,47,52],.str [49]],.int .i64 (-1)),
 ([.str [48],.str [49,47,56]],.int .i64 (-1)),
 ([.str [48],.str [49,47,51,50]],.int .i64 (-1)),
 ([.str [48],.str [49,47,50]],.int .i64 (-1)),
 ([.str [48],.str [51,47,56]],.int .i64 (-1)),
 ([.str [51,47,56],.str [48]],.int .i64 1),
 ([.str [48],.str [51,47,49,54]],.int .i64 (-1)),
 ([.str [48],.str [51,47,49,50,56]],.int .i64 (-1)),
 ([.str [48],.str [51,47,50,53,54]],.int .i64 (-1))]
theorem TAL70_ok:FTabOK prog 70 TAL70:=zaz (E:=ETA2) (n:=60) za4 zdF (zaA can1) (zab rfl) (by kernel_rfl)
def TAL72:List (List V×V):=[([.str [48],.str [48]],.tup [.str [48],.int .i64 0]),
 ([.str [48],.str [51,47,56]],.tup [.str [51,47,56],.int .i64 0]),
 ([.str [48],.str [51,47,49,54]],.tup [.str [51,47,49,54],.int .i64 0]),
 ([.str [48],.str [51,47,49,50,56]],.tup [.str [51,47,49,50,56],.int .i64 0]),
 ([.str [48],.str [51,47,50,53,54]],.tup [.str [51,47,50,53,54],.int .i64 0])]
theorem TAL72_ok:FTabOK prog 72 TAL72:=zaz (E:=ETA2) (n:=60) za4 zdF (zaA can1) (zab rfl) (by kernel_rfl)
def TAL145:List (List V×V):=[([.str [48]],.bool true),
 ([.str [49]],.bool true),
 ([.str [49,47,52]],.bool true),
 ([.str [49,47,50]],.bool true),
 ([.str [51,47,52]],.bool true)]
theorem zAZ:FTabOK prog 145 TAL145:=zaz (E:=ETA2) (n:=60) za4 zdF (zaA can1) (zab rfl) (by kernel_rfl)
def TAL76:List (List V×V):=[([.str [49]],.bool true),
 ([.str [49,47,50]],.bool true),
 ([.str [51,47,52]],.bool true),
 ([.str [51,47,49,54]],.bool true),
 ([.str [48]],.bool true),
 ([.str [51,47,56]],.bool true)]
theorem TAL76_ok:FTabOK prog 76 TAL76:=zaz (E:=ETA2) (n:=60) za4 zdF (zaA can1) (zab rfl) (by kernel_rfl)
def TAL79:List (List V×V):=[([.str [49],.str [49,47,50]],.tup [.str [49,47,50],.int .i64 0]),
 ([.str [49,47,50],.str [51,47,52]],.tup [.str [51,47,56],.int .i64 0]),
 ([.str [51,47,56],.str [49,47,50]],.tup [.str [51,47,49,54],.int .i64 0])]
theorem TAL79_ok:FTabOK prog 79 TAL79:=zaz (E:=ETA2) (n:=60) za4 zdF (zaA can1) (zab rfl) (by kernel_rfl)
def TAL82:List (List V×V):=[([.bool false,.str [49],.str [50]],.tup [.str [49,47,50],.int .i64 0]),
 ([.bool false,.str [51],.str [56]],.tup [.str [51,47,56],.int .i64 0]),
 ([.bool false,.str [51],.str [49,54]],.tup [.str [51,47,49,54],.int .i64 0])]
theorem TAL82_ok:FTabOK prog 82 TAL82:=zaz (E:=ETA2) (n:=60) za4 zdF (zaA can1) (zab rfl) (by kernel_rfl)
def TAL54:List (List V×V):=[([.str [49]],.tup [.bool false,.str [49],.str [49],.bool true]),
 ([.str [48]],.tup [.bool false,.str [48],.str [49],.bool true]),
 ([.str [49,47,50]],.tup [.bool false,.str [49],.str [50],.bool true]),
 ([.str [51,47,52]],.tup [.bool false,.str [51],.str [52],.bool true]),
 ([.str [51,47,49,54]],.tup [.bool false,.str [51],.str [49,54],.bool true]),
 ([.str [51,47,56]],.tup [.bool false,.str [51],.str [56],.bool true])]
theorem TAL54_ok:FTabOK prog 54 TAL54:=zaz (E:=ETA2) (n:=60) za4 zdF (zaA can1) (zab rfl) (by kernel_rfl)
def TTA3:Tab:=[(69,TAL69),(70,TAL70),(72,TAL72),(145,TAL145),(76,TAL76),(79,TAL79),(82,TAL82),(54,TAL54)]
theorem TTA3_ok:TabOK prog TTA3:=TabOK.cons TAL69_ok (TabOK.cons TAL70_ok (TabOK.cons TAL72_ok (TabOK.cons zAZ (TabOK.cons TAL76_ok (TabOK.cons TAL79_ok (TabOK.cons TAL82_ok (TabOK.cons TAL54_ok (TabOK.nil))))))))
noncomputable def ETA3:ECfg:=zgU ETA2 TTA3
theorem ETA3_ok:∀ f args r,ETA3.Γ f args=some r→PCall prog f args r:=zea zdF TTA3_ok
end Go.Proofs

namespace Go.Proofs
open Go.Ab
theorem zAx:eAns ETA3 Tryz.prog 60 15 []=some (.bool true):=by kernel_rfl
theorem zuO:PCall Tryz.prog 15 [] (.ret (.bool true)):=zyq za4 ETA3_ok (zaA can1) (zab rfl) (fun x h=>by cases h) zAx
end Go.Proofs
