/- The reference's Lists and Tag. -/
import Derived.Test.YthbimeikbkjnkaaGreatDoorBT6
set_option linter.all false
namespace Go.Proofs
open Go.Ab Go.Cnt Go.Pl Go.Tg
def zbf(ls:List (List Nat)):List V:=ls.map fun l=>.fs (nats .i64 l) l.length
theorem zlF(ls:List (List Nat)):(zbf ls).length=ls.length:=by simp [zbf]
theorem zpW(ls:List (List Nat))(i:Nat)(h:i<ls.length):nthV (zbf ls) i=.fs (nats .i64 (ls.getD i [])) (ls.getD i []).length:=by rw [zdl];unfold zbf;rw [List.getElem?_map,List.getD_eq_getElem?_getD,List.getElem?_eq_getElem h];rfl
theorem zao(ls:List (List Nat)):∀ x∈zbf ls,Pure x:=fun x h=>by obtain⟨l,_,rfl⟩:=List.mem_map.1 h;exact .fs (zU _ _)
theorem znR(ls:List (List Nat)):(∀ x∈zbf ls,Pure x)↔True:=⟨fun _=>trivial,fun _=>zao ls⟩
theorem zvu(a b:List (List Nat)):zbf (a++b)=zbf a++zbf b:=by simp [zbf]
theorem rowsN_rn {π:Nat→Nat}{N:Nat→Prop}(l:List (List Nat)):LRel (Rn π N) (zbf l) (zbf l)↔True:=⟨fun _=>trivial,fun _=>zt (zao l)⟩
attribute [go_sem] zlF znR rowsN_rn
def slM(b:Nat)(l:List (List Nat)):V:=if l=[]then .nilS else .sl b 0 l.length 1 none
def blkM(b:Nat)(l:List (List Nat))(r:List (Nat×Blk)):List (Nat×Blk):=if l=[]then r else(b,.cells (zbf l))::r
theorem zdh(b:Nat):slM b []=.nilS:=rfl
theorem zci(b:Nat)(r:List (Nat×Blk)):blkM b [] r=r:=rfl
theorem zcW(b:Nat){l:List (List Nat)}(h:l≠[]):slM b l=.sl b 0 l.length 1 none:=if_neg h
theorem zbX(b:Nat){l:List (List Nat)}(h:l≠[])(r:List (Nat×Blk)):blkM b l r=(b,.cells (zbf l))::r:=if_neg h
theorem zkx {H:Hp}{F:Nat→Prop}{n:Nat}(acc:List (List Nat))(row:List Nat)(t R:Nat)(hF:F R)(hg:zaH H.bs R=some (.cells (nats .i64 (row++[t])))):lFz H F n (zbf acc++[.sl R 0 (row.length+1) 1 none]) (zbf (acc++[row++[t]])):=by
 rw [zvu];refine ziZ (zei (zao acc)) ⟨.inr ?_,trivial⟩;have e:(row++[t]).length=row.length+1:=by simp
 show FrzF H F (.sl R 0 (row.length+1) 1 none) (.fs (nats .i64 (row++[t])) (row++[t]).length);rw [e];exact FrzF.slp hF hg rfl (by simp [nats]) (by rw [List.drop_zero,Nat.mul_one];exact(List.take_of_length_le (by simp [nats])).symm) (zU _ _)
def ext(n:Nat)(l:List Nat):List (List Nat):=(List.range n).map fun j=>l++[j]
def accK(n:Nat)(L:List (List Nat))(k:Nat):List (List Nat):=(L.take k).flatMap (ext n)
def acU(n:Nat)(L:List (List Nat))(k t:Nat):List (List Nat):=accK n L k++(List.range t).map fun j=>L.getD k []++[j]
theorem acU_zero(n:Nat)(L:List (List Nat))(k:Nat):acU n L k 0=accK n L k:=by simp [acU]
theorem acU_step(n:Nat)(L:List (List Nat))(k t:Nat):acU n L k (t+1)=acU n L k t++[L.getD k []++[t]]:=by unfold acU;rw [List.range_succ,List.map_append, ←List.append_assoc];rfl
theorem zAi(n:Nat)(L:List (List Nat))(k:Nat)(h:k<L.length):accK n L (k+1)=acU n L k n:=by unfold accK acU accK ext;rw [List.take_add_one,List.getElem?_eq_getElem h,List.flatMap_append,List.getD_eq_getElem?_getD,List.getElem?_eq_getElem h];simp
theorem accK_all(n:Nat)(t:Nat):accK n (LL n t) (LL n t).length=LL n (t+1):=by unfold accK;rw [List.take_length];rfl
theorem zgE(n:Nat):∀ t,(LL n t).length=n ^ t
 |0=>rfl
 |t+1=>by rw [LL,List.length_flatMap];simp only [List.length_map,List.length_range,List.map_const',List.sum_replicate_nat,zgE n t,Nat.pow_succ]
theorem acU_le {n:Nat}{t:Nat}{k j:Nat}(hk:k<(LL n t).length)(hj:j≤n):(acU n (LL n t) k j).length≤n ^ (t+1):=by
 have e:(acU n (LL n t) k j).length=k*n+j:=by unfold acU accK ext;rw [List.length_append,List.length_flatMap];simp only [List.length_map,List.length_range,List.map_const',List.sum_replicate_nat,List.length_take,Nat.min_eq_left (Nat.le_of_lt hk)]
 have h1:(k+1)*n≤(LL n t).length*n:=Nat.mul_le_mul_right n hk;rw [zgE]at h1;rw [e,Nat.pow_succ];have h2:(k+1)*n=k*n+n:=by rw [Nat.add_mul,Nat.one_mul]
 omega
set_option maxHeartbeats 8000000 in
set_option maxRecDepth 100000 in
theorem lists_ok(n T:Nat)(hn:n≤3)(hT:T≤4):PCall Tryz.prog 45 [.int .i64 n,.int .i64 T] (.ret (.fs (zbf (LL n T)) (LL n T).length)):=by
 have hpow:∀ t,t≤4→n ^ t≤81:=fun t ht=>Nat.le_trans (Nat.pow_le_pow_left hn t) (Nat.le_trans (Nat.pow_le_pow_right (by decide) ht) (by decide));refine PCall.walk (rs:=[.tmp 4]) [0,1,4,5,6,7,8,9,13,19,24] [] mixed (zh) (zf) call45 Tryz.func45 rfl Tryz.ntmps45 rfl (by kernel_rfl) (by simp) (by simp [push_cast]) ?_;simp (disch:=first|assumption|(push_cast<;>omega)|omega) only [go_sem];refine AXs.loop mixed (zh) (zf) (fun i:Nat=>[(0,.int .i64 n),(1,.int .i64 T),(5,slM 0 (LL n i)),(6,.int .i64 i)]) (fun i=>⟨blkM 0 (LL n i) [],1⟩) (fun i=>i≤T) (fun i=>T - i) 0 (by kernel_rfl) (Nat.zero_le _) ?_ ?_
 ·have h0:LL n 0≠[]:=by simp [LL]
  rw [zcW 0 h0,zbX 0 h0];refine Sub.of0 [(0,0)] rfl rfl ?_ ?_
  ·simp only [go_sem];rfl
  ·simp only [go_sem];exact(show LRel (Rn (piL [(0,0)]) fun x=>x<1) [.fs [] 0] [.nilS]from⟨rfl,fun i x y hx hy=>by
    match i with
    |0=>cases hx;cases hy;exact .nil0
    |i+1=>simp at hx⟩)
 intro i h1;simp (disch:=first|assumption|(push_cast<;>omega)|omega) only [go_sem];refine AXc.introP (fun h2=>?_) (fun h2=>?_)
 ·have hi:i<T:=by omega
  have hall:=accK_all n i;have hcnt:=zgE n i;have hpi:=hpow i (by omega);have hpj:=hpow (i+1) (by omega);have hle:∀ k j,k<(LL n i).length→j≤n→(acU n (LL n i) k j).length≤n ^ (i+1):=fun k j hk hj=>acU_le hk hj;have hrl:∀ k,k<(LL n i).length→((LL n i).getD k []).length=i:=fun k hk=>by rw [List.getD_eq_getElem?_getD,List.getElem?_eq_getElem hk];exact zc8 n i _ (List.getElem_mem _)
  generalize LL n i=L at hall hcnt hle hrl ⊢;by_cases hL:L=[]
  ·subst hL;have hnil:LL n (i+1)=[]:=hall.symm;simp (disch:=first|assumption|(push_cast<;>omega)|omega) only [go_sem,zdh,zci];refine AXs.rounds mixed zh zf [] (by kernel_rfl) ?_;simp (disch:=first|assumption|(push_cast<;>omega)|omega) only [go_sem];refine AXa.go mixed (zh) (zf) (by kernel_rfl) ?_;simp (disch:=first|assumption|(push_cast<;>omega)|omega) only [go_sem];refine zk (i+1) (by omega) (by omega) ?_;rw [hnil,zdh,zci];refine Sub.of0 [] rfl rfl ?_ ?_
   ·simp only [go_sem];simp
   ·simp only [go_sem]
  ·rw [zcW 0 hL,zbX 0 hL];simp (disch:=first|assumption|(push_cast<;>omega)|omega) only [go_sem];refine AXs.loop mixed (zh) (zf) (fun k:Nat=>[(0,.int .i64 n),(1,.int .i64 T),(5,.sl 0 0 L.length 1 none),(6,.int .i64 i),(7,slM 1 (accK n L k)),(8,.int .i64 k)]) (fun k=>⟨blkM 1 (accK n L k) [(0,.cells (zbf L))],2⟩) (fun k=>k≤L.length) (fun k=>L.length - k) 0 (by kernel_rfl) (Nat.zero_le _) (Sub.of0 [(0,0)] rfl rfl ?_ ?_) ?_
   ·simp only [go_sem];exact(show Rn _ _ V.nilS V.nilS from .same .nilS)
   ·exact(show subH _ _ _ [(0,Blk.cells (zbf L))]from by simp only [go_sem])
   intro k h3;simp (disch:=first|assumption|(push_cast<;>omega)|omega) only [go_sem];refine AXc.introP (fun h4=>?_) (fun h4=>?_)
   ·have hk:k<L.length:=by omega
    have hak:=zAi n L k hk;have hrk:=hrl k hk;have hrat:=zpW L k hk;simp (disch:=first|assumption|(push_cast<;>omega)|omega) only [go_sem];refine AXs.loopF mixed zh zf (fun t:Nat=>[(0,.int .i64 n),(1,.int .i64 T),(5,.sl 0 0 L.length 1 none),(6,.int .i64 i),(7,slM 1 (acU n L k t)),(8,.int .i64 k),(9,.int .i64 t)]) (fun t=>⟨blkM 1 (acU n L k t) [(0,.cells (zbf L))],2⟩) (fun t=>t≤n) (fun t=>n - t) 0 (by kernel_rfl) (Nat.zero_le _) ?_ ?_
    ·rw [acU_zero];by_cases ha:accK n L k=[]
     ·rw [ha,zdh,zci];refine Sub.of0 [(0,0)] rfl rfl ?_ ?_
      ·simp only [go_sem]
      ·simp only [go_sem]
     ·rw [zcW 1 ha,zbX 1 ha];refine Sub.of0 [(0,0),(1,1)] rfl rfl ?_ ?_
      ·simp only [go_sem]
      ·simp only [go_sem]
    intro t h5;simp (disch:=first|assumption|(push_cast<;>omega)|omega) only [go_sem];refine AXc.introP (fun h6=>?_) (fun h6=>?_)
    ·have ht:t<n:=by omega
     have hst:=acU_step n L k t;have hlt:=hle k t hk h5;generalize L.getD k []=row at hst hrk hrat;generalize acU n L k t=acc at hst hlt ⊢;have nn:acc++[row++[t]]≠[]:=by simp
     have nl:(acc++[row++[t]]).length=acc.length+1:=by simp
     have tk1:List.take row.length row=row:=List.take_length;have tk2:List.take acc.length (zbf acc)=zbf acc:=List.take_of_length_le (by rw [zlF];exact Nat.le_refl _);by_cases ha:acc=[]<;>by_cases hr:row=[]
     ·subst ha hr;simp (disch:=first|assumption|(push_cast<;>omega)|omega) only [go_sem,zdh,zci,hrat];refine⟨⟨by omega,by omega⟩,by omega,?_⟩;refine zgw (t+1) (by omega) (by omega) [3] [(5,zbf ([]++[[]++[t]])),(0,zbf L)] (env':=[(0,.int .i64 n),(1,.int .i64 T),(5,.sl 0 0 L.length 1 none),(6,.int .i64 i),(7,.sl 5 0 (([]++[[]++[t]]).length) 1 none),(8,.int .i64 k),(9,.int .i64 (t+1:Nat))]) (n':=6) rfl rfl rfl ?_ ?_ ?_
      ·simp only [go_sem,nl,List.length_append,List.length_cons,List.length_nil];exact⟨.inl ⟨by simp,rfl⟩,.inl ⟨by simp,rfl⟩,.inl (by simp)⟩
      ·refine⟨⟨by decide,by simp,?_⟩,⟨by decide,by simp,zei (zao L)⟩,trivial⟩;show lFz _ _ _ _ _;skip;exact zkx [] [] t 3 (by simp) (by rfl)
      ·rw [hst,zcW 1 nn,zbX 1 nn];refine Sub.of0 [(0,0),(1,5)] rfl rfl ?_ ?_
       ·simp only [go_sem]
       ·simp only [go_sem];exact⟨.cells (zt (zao _)),.cells (zt (zao _))⟩
     ·have r0:(row.length=0)=False:=eq_false fun h=>hr (List.eq_nil_of_length_eq_zero h);subst ha;simp (disch:=first|assumption|(push_cast<;>omega)|omega) only [go_sem,zdh,zci,hrat,r0,if_false];refine⟨⟨by omega,by omega⟩,by omega,⟨by omega,by omega⟩,⟨by omega,by omega⟩,?_⟩;refine zgw (t+1) (by omega) (by omega) [4] [(6,zbf ([]++[row++[t]])),(0,zbf L)] (env':=[(0,.int .i64 n),(1,.int .i64 T),(5,.sl 0 0 L.length 1 none),(6,.int .i64 i),(7,.sl 6 0 (([]++[row++[t]]).length) 1 none),(8,.int .i64 k),(9,.int .i64 (t+1:Nat))]) (n':=7) rfl rfl rfl ?_ ?_ ?_
      ·simp only [go_sem,nl,List.length_append,List.length_cons,List.length_nil];exact⟨.inl ⟨by simp,rfl⟩,.inl ⟨by simp,rfl⟩,.inl (by simp)⟩
      ·refine⟨⟨by decide,by simp,?_⟩,⟨by decide,by simp,zei (zao L)⟩,trivial⟩;show lFz _ _ _ _ _;skip;exact zkx [] row t 4 (by simp) (by show some (Blk.cells _)=_;rw [tk1])
      ·rw [hst,zcW 1 nn,zbX 1 nn];refine Sub.of0 [(0,0),(1,6)] rfl rfl ?_ ?_
       ·simp only [go_sem]
       ·simp only [go_sem];exact⟨.cells (zt (zao _)),.cells (zt (zao _))⟩
     ·subst hr;simp (disch:=first|assumption|(push_cast<;>omega)|omega) only [go_sem,zcW 1 ha,zbX 1 ha,hrat];refine⟨⟨by omega,by omega⟩,by omega,⟨by omega,by omega⟩,?_⟩;refine zgw (t+1) (by omega) (by omega) [3] [(5,zbf (acc++[[]++[t]])),(0,zbf L)] (env':=[(0,.int .i64 n),(1,.int .i64 T),(5,.sl 0 0 L.length 1 none),(6,.int .i64 i),(7,.sl 5 0 ((acc++[[]++[t]]).length) 1 none),(8,.int .i64 k),(9,.int .i64 (t+1:Nat))]) (n':=6) rfl rfl rfl ?_ ?_ ?_
      ·simp only [go_sem,nl,List.length_append,List.length_cons,List.length_nil];exact⟨.inl ⟨by simp,rfl⟩,.inl ⟨by simp,rfl⟩,.inl (by simp)⟩
      ·refine⟨⟨by decide,by simp,?_⟩,⟨by decide,by simp,zei (zao L)⟩,trivial⟩;show lFz _ _ _ _ _;rw [tk2];exact zkx acc [] t 3 (by simp) (by rfl)
      ·rw [hst,zcW 1 nn,zbX 1 nn];refine Sub.of0 [(0,0),(1,5)] rfl rfl ?_ ?_
       ·simp only [go_sem]
       ·simp only [go_sem];exact⟨.cells (zt (zao _)),.cells (zt (zao _))⟩
     ·have r0:(row.length=0)=False:=eq_false fun h=>hr (List.eq_nil_of_length_eq_zero h);simp (disch:=first|assumption|(push_cast<;>omega)|omega) only [go_sem,zcW 1 ha,zbX 1 ha,hrat,r0,if_false];refine⟨⟨by omega,by omega⟩,by omega,⟨by omega,by omega⟩,⟨by omega,by omega⟩,⟨by omega,by omega⟩,?_⟩;refine zgw (t+1) (by omega) (by omega) [4] [(6,zbf (acc++[row++[t]])),(0,zbf L)] (env':=[(0,.int .i64 n),(1,.int .i64 T),(5,.sl 0 0 L.length 1 none),(6,.int .i64 i),(7,.sl 6 0 ((acc++[row++[t]]).length) 1 none),(8,.int .i64 k),(9,.int .i64 (t+1:Nat))]) (n':=7) rfl rfl rfl ?_ ?_ ?_
      ·simp only [go_sem,nl,List.length_append,List.length_cons,List.length_nil];exact⟨.inl ⟨by simp,rfl⟩,.inl ⟨by simp,rfl⟩,.inl (by simp)⟩
      ·refine⟨⟨by decide,by simp,?_⟩,⟨by decide,by simp,zei (zao L)⟩,trivial⟩;show lFz _ _ _ _ _;rw [tk2];exact zkx acc row t 4 (by simp) (by show some (Blk.cells _)=_;rw [tk1])
      ·rw [hst,zcW 1 nn,zbX 1 nn];refine Sub.of0 [(0,0),(1,6)] rfl rfl ?_ ?_
       ·simp only [go_sem]
       ·simp only [go_sem];exact⟨.cells (zt (zao _)),.cells (zt (zao _))⟩
    ·obtain rfl:t=n:=by omega
     rw [←hak];simp only [go_sem];refine AXa.go mixed (zh) (zf) (by kernel_rfl) ?_;simp (disch:=first|assumption|(push_cast<;>omega)|omega) only [go_sem];refine zk (k+1) (by omega) (by omega) ?_;by_cases ha:accK t L (k+1)=[]
     ·rw [ha,zdh,zci];refine Sub.of0 [(0,0)] rfl rfl ?_ ?_
      ·simp only [go_sem];simp
      ·simp only [go_sem]
     ·rw [zcW 1 ha,zbX 1 ha];refine Sub.of0 [(0,0),(1,1)] rfl rfl ?_ ?_
      ·simp only [go_sem];simp
      ·simp only [go_sem]
   ·obtain rfl:k=L.length:=by omega
    rw [hall];by_cases ha:LL n (i+1)=[]
    ·rw [ha,zdh,zci];simp only [go_sem];refine AXa.go mixed (zh) (zf) (by kernel_rfl) ?_;simp (disch:=first|assumption|(push_cast<;>omega)|omega) only [go_sem];refine zk (i+1) (by omega) (by omega) ?_;rw [ha,zdh,zci];refine Sub.of0 [] rfl rfl ?_ ?_
     ·simp only [go_sem];simp
     ·simp only [go_sem]
    ·rw [zcW 1 ha,zbX 1 ha];simp only [go_sem];refine AXa.go mixed (zh) (zf) (by kernel_rfl) ?_;simp (disch:=first|assumption|(push_cast<;>omega)|omega) only [go_sem];refine zk (i+1) (by omega) (by omega) ?_;rw [zcW 0 ha,zbX 0 ha];refine Sub.of0 [(0,1)] rfl rfl ?_ ?_
     ·simp only [go_sem];simp
     ·simp only [go_sem]
 ·obtain rfl:i=T:=by omega
  generalize LL n i=L;by_cases ha:L=[]
  ·subst ha;rw [zdh,zci];simp only [go_sem];refine AXa.go mixed (zh) (zf) (by kernel_rfl) ?_;simp (disch:=first|assumption|(push_cast<;>omega)|omega) only [go_sem];rfl
  ·rw [zcW 0 ha,zbX 0 ha];simp only [go_sem];refine AXa.go mixed (zh) (zf) (by kernel_rfl) ?_;simp (disch:=first|assumption|(push_cast<;>omega)|omega) only [go_sem];refine .sl rfl (by simp [zbf]) (by simp [zbf]) fun i x y hx hy=>?_;rw [List.drop_zero,Nat.mul_one,List.take_of_length_le (by simp [zbf])]at hx;rw [hx]at hy;cases hy;exact .pure (zao _ _ (List.mem_of_getElem? hx))
end Go.Proofs

namespace Go.Ab
theorem NCall.freeze {P:Program}{f:FuncId}{args:List V}{F:List Blk}{W:List Nat}{v0:V}{Hc0:Hp}(hN:NCall P f args F W v0 Hc0){v:V}{Hc:Hp}(fl:List Nat)
 (hfl:∀ b∈fl,F.length≤b∧∃ x,Hc0.get b=some x) (hW:∀ b∈W,∃ x,Hc0.get b=some x) (hv:Rn id (fun b=>¬b∈fl∧b<Hc.next) v v0∨FrzF Hc0 (· ∈fl) v0 v)
 (hh:∀ b x',Hc.get b=some x'→b<Hc.next∧¬b∈fl∧∃ x,Hc0.get b=some x∧FzB Hc0 (· ∈fl) Hc.next x' x) (hel:∀ b,b<F.length→Hc.get b=Hc0.get b) (hn:F.length≤Hc.next):NCall P f args F W v Hc:=by
 refine⟨hN.call,hN.sub,hn,fun g base w vs hgl hinv hvs hpw=>(hN.run g base w vs hgl hinv hvs hpw).mono fun e w' ⟨g1,vc,he,hv1,hp⟩=>?_⟩
 let C:Cfg:=⟨1,zbn [],noΓ,noΔ,F.length,W,zbn []⟩
 have hent:Entry C base (fun _=>True) g ⟨numB 0 F,F.length⟩ w:=⟨hinv,rfl,fun _ _=>trivial⟩
 have hr:Rel C base (fun _=>True) g ⟨numB 0 F,F.length⟩ w g1 ⟨[(0,v0)],Hc0⟩ { tmps:=#[vc],defers:=[] } w':=by
  refine⟨⟨hgl.mono hp.le.2,by simp [C],fun t x e=>?_⟩,rfl,hp⟩;rw [List.lookup_cons]at e;by_cases ht:t=0
  ·subst ht;simp only [beq_self_eq_true,Option.some.injEq]at e;subst e;exact hv1
  ·have hb:(t==0)=false:=by simp [ht]
   simp only [hb]at e;cases e
 have henv:∀ t v',([(0,v)]:Env).lookup t=some v'→v'=.any∨∃ u,([(0,v0)]:Env).lookup t=some u∧(Rn id (fun b=>¬b∈fl∧b<Hc.next) v' u∨FrzF Hc0 (· ∈fl) u v'):=fun t v' e=>by
  rw [List.lookup_cons]at e;by_cases ht:t=0
  ·subst ht;simp only [beq_self_eq_true,Option.some.injEq]at e;subst e;exact .inr ⟨v0,by simp,hv⟩
  ·have hb:(t==0)=false:=by simp [ht]
   simp only [hb]at e;cases e
 obtain⟨g2,h4⟩:=hr.freeze3 (F:=(· ∈fl)) (s':=⟨[(0,v)],Hc⟩) hent (fun b hb=>⟨hN.sub b hb,hW b hb⟩) ⟨henv,hh,hfl,hel,hn⟩
 exact⟨g2,vc,he,by simpa using h4.env.rel 0 v (by simp),h4.post⟩
end Go.Ab
