/- A loop whose rounds may end with own memory told as standing still. -/
import Derived.Test.YthbimeikbkjnkaaGreatDoorVM0
import Derived.Test.YthbimeikbkjnkaaGreatDoorT5
set_option linter.all false
namespace Go.Ab
def TellF(C:Cfg)(s s':St):Prop:=Sub C s s'∨∃ s1,(C.Wm=[]∧∃ F,Fz2 C.nx F s s1)∧Sub C s1 s'
theorem AX.loopF {C:Cfg}{P:Program}{K:Out→St→Prop}{s:St}{x:Code}{ι:Type}(inv:ι→St)(p:ι→Prop)(m:ι→Nat)(i0:ι)(h0:p i0)(hs:Sub C s (inv i0))
 (h:∀ i,p i→AX C P x (inv i) (zfp (fun s'=>∃ j,p j∧m j<m i∧TellF C s' (inv j)) K)):AX C P (.loop x) s K:=fun base D g0 H0 w0 g a w he r=>by
 obtain⟨g1,r1⟩:=r.sub he hs
 let I:Nat→Act→World→Prop:=fun n a w=>∃ i g,p i∧m i=n∧Rel C base D g0 H0 w0 g (inv i) a w
 have key:∀ n a w,I n a w→(Code.loop x).wp P (Aft C base D g0 H0 w0 K) a w:=by
  intro n a w hI;classical
  refine wp_loop (fun a w=>∃ n,I n a w) (fun a w=>if h:∃ n,I n a w then Classical.choose (least (fun n=>I n a w) h)else 0) ⟨n,hI⟩ ?_;intro a w hE;have hf:=(Classical.choose_spec (least (fun n=>I n a w) hE)).1;obtain⟨i,g,hp,hmi,hr⟩:=hf;refine wp_mono (h i hp base D g0 H0 w0 g a w he hr) fun e a' w' ⟨o,s,g,h1,h2,h3⟩=>?_;cases o<;>cases e<;>first|exact h2.elim|skip
  ·obtain⟨j,hpj,hlt,hsub⟩:=h1;have hr:∃ g',Rel C base D g0 H0 w0 g' (inv j) a' w':=by
    rcases hsub with hsub|⟨s1,⟨hW,F,hz⟩,hsub⟩
    ·exact h3.sub he hsub
    ·obtain⟨g2,r2⟩:=h3.freeze2 he hW hz;exact r2.sub he hsub
   obtain⟨g',r'⟩:=hr;have hj:I (m j) a' w':=⟨j,g',hpj,rfl,r'⟩;refine⟨⟨_,hj⟩,?_⟩;rw [dif_pos ⟨_,hj⟩,dif_pos hE];have:=(Classical.choose_spec (least (fun n=>I n a' w') ⟨_,hj⟩)).2 _ hj;omega
  ·exact⟨_,s,g,h1,h2,h3⟩
  ·exact⟨_,s,g,h1,h2,h3⟩
  ·exact⟨_,s,g,h1,h2,h3⟩
 exact key _ a w ⟨i0,g1,h0,rfl,r1⟩
def LoopF(C:Cfg)(ι:Type)(inv:ι→St)(p:ι→Prop)(m:ι→Nat)(i:ι)(K:Out→St→Prop):Out→St→Prop:=zfp (fun s'=>∃ j,p j∧m j<m i∧TellF C s' (inv j)) K
theorem AXs.loopF {C:Cfg}{P:Program}{K:Out→St→Prop}{st:List Fr}{env:Env}{h:Hp}(hm:P.follows .mixedOrders=true)(hΓ:zcS P C.Γ)(hΔ:za4 P C.Δ){x:Code}{ι:Type}(ienv:ι→Env)(ih:ι→Hp)(p:ι→Prop)(m:ι→Nat)(i0:ι)
 (hc:zaq C.nt x=true) (h0:p i0) (hs:Sub C ⟨env,h⟩ ⟨ienv i0,ih i0⟩)
 (hb:∀ i,p i→AXs C P (LoopF C ι (fun i=>⟨ienv i,ih i⟩) p m i (unst C P K st)) [] x (ienv i) (ih i)):AXs C P K st (.loop x) env h:=
 AX.loopF (fun i=>⟨ienv i,ih i⟩) p m i0 h0 hs fun i hp=>zcC hm ⟨hΓ,hΔ⟩ x ⟨ienv i,ih i⟩ _ hc (hb i hp)
theorem zgA {C:Cfg}{ι:Type}{inv:ι→St}{p:ι→Prop}{m:ι→Nat}{i:ι}{K:Out→St→Prop}{env env':Env}{bs:List (Nat×Blk)}{n n':Nat}(j:ι)(h1:p j)(h2:m j<m i)(fl:List Nat)(bs':List (Nat×List V))(hW:C.Wm=[])(h0:C.nx=0)(hl:(fl.all fun b=>(zaF bs b).isSome)=true)
 (he:fzE (· ∈fl) n' ⟨bs,n⟩ env env') (hh:fzC ⟨bs,n⟩ (· ∈fl) n' bs bs') (h3:Sub C ⟨env',⟨zx6 bs',n'⟩⟩ (inv j)):LoopF C ι inv p m i K .norm ⟨env,⟨bs,n⟩⟩:=by
 refine⟨j,h1,h2,.inr ⟨⟨env',⟨zx6 bs',n'⟩⟩,⟨hW,(· ∈fl),zqm he,fun b x' e=>?_,fun b hb=>⟨by omega,?_⟩,fun b hb=>by omega,by rw [h0];exact Nat.zero_le _⟩,h3⟩⟩
 ·obtain⟨h1,h2,x,h3,h4⟩:=zxn hh b x' e
  exact⟨h1,h2,x,by rw [zbh];exact h3,h4⟩
 ·have:=List.all_eq_true.1 hl b hb
  rw [Option.isSome_iff_exists]at this
  rw [zbh];exact this
theorem zwB {C:Cfg}{P:Program}{ι:Type}{inv:ι→St}{p:ι→Prop}{m:ι→Nat}{i:ι}{K:Out→St→Prop}{st:List Fr}(env:Env)(h:Hp):LoopF C ι inv p m i (unst C P K st) .ret ⟨env,h⟩=AXs C P K st .ret env h:=rfl
theorem zsf {C:Cfg}{P:Program}{ι:Type}{inv:ι→St}{p:ι→Prop}{m:ι→Nat}{i:ι}{K:Out→St→Prop}{st:List Fr}(k:Nat)(env:Env)(h:Hp):LoopF C ι inv p m i (unst C P K st) (.exit k) ⟨env,h⟩=AXs C P K st (.exit k) env h:=rfl
attribute [go_sem] zwB zsf
theorem zei {H:Hp}{F:Nat→Prop}{n:Nat}:∀ {l:List V},(∀ x∈l,Pure x)→lFz H F n l l
 |[],_=>trivial
 |x::l,h=>⟨.inl (.same (h x (by simp))),zei fun y hy=>h y (by simp [hy])⟩
theorem zi4 {H:Hp}{F:Nat→Prop}{n:Nat}:∀ {a a' b b':List V},lFz H F n a a'→lFz H F n b b'→lFz H F n (a++b) (a'++b')
 |[],[],_,_,_,h=>h
 |x::a,y::a',_,_,⟨h1,h2⟩,h=>⟨h1,zi4 h2 h⟩
 |[],_::_,_,_,h,_=>h.elim
 |_::_,[],_,_,h,_=>h.elim
end Go.Ab

namespace Go.Proofs
open Go.Ab Go.Cnt Go.Pl Go.Tg
def zbe(ls:List (List Nat)):List V:=ls.map fun l=>.fs (nats .i64 l) l.length
theorem zlz(ls:List (List Nat)):(zbe ls).length=ls.length:=by simp [zbe]
theorem zpS(ls:List (List Nat))(i:Nat)(h:i<ls.length):nthV (zbe ls) i=.fs (nats .i64 (ls.getD i [])) (ls.getD i []).length:=by rw [zdj];unfold zbe;rw [List.getElem?_map,List.getD_eq_getElem?_getD,List.getElem?_eq_getElem h];rfl
theorem zan(ls:List (List Nat)):∀ x∈zbe ls,Pure x:=fun x h=>by obtain⟨l,_,rfl⟩:=List.mem_map.1 h;exact .fs (zaa _ _)
theorem znO(ls:List (List Nat)):(∀ x∈zbe ls,Pure x)↔True:=⟨fun _=>trivial,fun _=>zan ls⟩
theorem zvg(a b:List (List Nat)):zbe (a++b)=zbe a++zbe b:=by simp [zbe]
theorem rowsN_rn {π:Nat→Nat}{N:Nat→Prop}(l:List (List Nat)):LRel (Rn π N) (zbe l) (zbe l)↔True:=⟨fun _=>trivial,fun _=>zt (zan l)⟩
attribute [go_sem] zlz znO rowsN_rn
def slM(b:Nat)(l:List (List Nat)):V:=if l=[]then .nilS else .sl b 0 l.length 1 none
def blkM(b:Nat)(l:List (List Nat))(r:List (Nat×Blk)):List (Nat×Blk):=if l=[]then r else(b,.cells (zbe l))::r
theorem zdf(b:Nat):slM b []=.nilS:=rfl
theorem zcj(b:Nat)(r:List (Nat×Blk)):blkM b [] r=r:=rfl
theorem zcW(b:Nat){l:List (List Nat)}(h:l≠[]):slM b l=.sl b 0 l.length 1 none:=if_neg h
theorem zbV(b:Nat){l:List (List Nat)}(h:l≠[])(r:List (Nat×Blk)):blkM b l r=(b,.cells (zbe l))::r:=if_neg h
theorem zkt {H:Hp}{F:Nat→Prop}{n:Nat}(acc:List (List Nat))(row:List Nat)(t R:Nat)(hF:F R)(hg:zaF H.bs R=some (.cells (nats .i64 (row++[t])))):lFz H F n (zbe acc++[.sl R 0 (row.length+1) 1 none]) (zbe (acc++[row++[t]])):=by
 rw [zvg];refine zi4 (zei (zan acc)) ⟨.inr ?_,trivial⟩;have e:(row++[t]).length=row.length+1:=by simp
 show FrzF H F (.sl R 0 (row.length+1) 1 none) (.fs (nats .i64 (row++[t])) (row++[t]).length);rw [e];exact FrzF.slp hF hg rfl (by simp [nats]) (by rw [List.drop_zero,Nat.mul_one];exact(List.take_of_length_le (by simp [nats])).symm) (zaa _ _)
def ext(n:Nat)(l:List Nat):List (List Nat):=(List.range n).map fun j=>l++[j]
def accK(n:Nat)(L:List (List Nat))(k:Nat):List (List Nat):=(L.take k).flatMap (ext n)
def acU(n:Nat)(L:List (List Nat))(k t:Nat):List (List Nat):=accK n L k++(List.range t).map fun j=>L.getD k []++[j]
theorem acU_zero(n:Nat)(L:List (List Nat))(k:Nat):acU n L k 0=accK n L k:=by simp [acU]
theorem acU_step(n:Nat)(L:List (List Nat))(k t:Nat):acU n L k (t+1)=acU n L k t++[L.getD k []++[t]]:=by unfold acU;rw [List.range_succ,List.map_append, ←List.append_assoc];rfl
theorem zz7(n:Nat)(L:List (List Nat))(k:Nat)(h:k<L.length):accK n L (k+1)=acU n L k n:=by unfold accK acU accK ext;rw [List.take_add_one,List.getElem?_eq_getElem h,List.flatMap_append,List.getD_eq_getElem?_getD,List.getElem?_eq_getElem h];simp
theorem accK_all(n:Nat)(t:Nat):accK n (LL n t) (LL n t).length=LL n (t+1):=by unfold accK;rw [List.take_length];rfl
theorem zgH(n:Nat):∀ t,(LL n t).length=n ^ t
 |0=>rfl
 |t+1=>by rw [LL,List.length_flatMap];simp only [List.length_map,List.length_range,List.map_const',List.sum_replicate_nat,zgH n t,Nat.pow_succ]
theorem acU_le {n:Nat}{t:Nat}{k j:Nat}(hk:k<(LL n t).length)(hj:j≤n):(acU n (LL n t) k j).length≤n ^ (t+1):=by
 have e:(acU n (LL n t) k j).length=k*n+j:=by unfold acU accK ext;rw [List.length_append,List.length_flatMap];simp only [List.length_map,List.length_range,List.map_const',List.sum_replicate_nat,List.length_take,Nat.min_eq_left (Nat.le_of_lt hk)]
 have h1:(k+1)*n≤(LL n t).length*n:=Nat.mul_le_mul_right n hk;rw [zgH]at h1;rw [e,Nat.pow_succ];have h2:(k+1)*n=k*n+n:=by rw [Nat.add_mul,Nat.one_mul]
 omega
set_option maxHeartbeats 8000000 in
set_option maxRecDepth 100000 in
theorem lists_ok(n T:Nat)(hn:n≤3)(hT:T≤4):PCall Tryz.prog 45 [.int .i64 n,.int .i64 T] (.ret (.fs (zbe (LL n T)) (LL n T).length)):=by
 have hpow:∀ t,t≤4→n ^ t≤81:=fun t ht=>Nat.le_trans (Nat.pow_le_pow_left hn t) (Nat.le_trans (Nat.pow_le_pow_right (by decide) ht) (by decide));refine PCall.walk (rs:=[.tmp 4]) [0,1,4,5,6,7,8,9,13,19,24] [] mixed (zh) (zg) call45 Tryz.func45 rfl Tryz.ntmps45 rfl (by kernel_rfl) (by simp) (by simp [push_cast]) ?_;simp (disch:=first|assumption|(push_cast<;>omega)|omega) only [go_sem];refine AXs.loop mixed (zh) (zg) (fun i:Nat=>[(0,.int .i64 n),(1,.int .i64 T),(5,slM 0 (LL n i)),(6,.int .i64 i)]) (fun i=>⟨blkM 0 (LL n i) [],1⟩) (fun i=>i≤T) (fun i=>T - i) 0 (by kernel_rfl) (Nat.zero_le _) ?_ ?_
 ·have h0:LL n 0≠[]:=by simp [LL]
  rw [zcW 0 h0,zbV 0 h0];refine Sub.of0 [(0,0)] rfl rfl ?_ ?_
  ·simp only [go_sem];rfl
  ·simp only [go_sem];exact(show LRel (Rn (piL [(0,0)]) fun x=>x<1) [.fs [] 0] [.nilS]from⟨rfl,fun i x y hx hy=>by
    match i with
    |0=>cases hx;cases hy;exact .nil0
    |i+1=>simp at hx⟩)
 intro i h1;simp (disch:=first|assumption|(push_cast<;>omega)|omega) only [go_sem];refine AXc.introP (fun h2=>?_) (fun h2=>?_)
 ·have hi:i<T:=by omega
  have hall:=accK_all n i;have hcnt:=zgH n i;have hpi:=hpow i (by omega);have hpj:=hpow (i+1) (by omega);have hle:∀ k j,k<(LL n i).length→j≤n→(acU n (LL n i) k j).length≤n ^ (i+1):=fun k j hk hj=>acU_le hk hj;have hrl:∀ k,k<(LL n i).length→((LL n i).getD k []).length=i:=fun k hk=>by rw [List.getD_eq_getElem?_getD,List.getElem?_eq_getElem hk];exact zjs n i _ (List.getElem_mem _)
  generalize LL n i=L at hall hcnt hle hrl ⊢;by_cases hL:L=[]
  ·subst hL;have hnil:LL n (i+1)=[]:=hall.symm;simp (disch:=first|assumption|(push_cast<;>omega)|omega) only [go_sem,zdf,zcj];refine AXs.rounds mixed zh zg [] (by kernel_rfl) ?_;simp (disch:=first|assumption|(push_cast<;>omega)|omega) only [go_sem];refine AXa.go mixed (zh) (zg) (by kernel_rfl) ?_;simp (disch:=first|assumption|(push_cast<;>omega)|omega) only [go_sem];refine zk (i+1) (by omega) (by omega) ?_;rw [hnil,zdf,zcj];refine Sub.of0 [] rfl rfl ?_ ?_
   ·simp only [go_sem];simp
   ·simp only [go_sem]
  ·rw [zcW 0 hL,zbV 0 hL];simp (disch:=first|assumption|(push_cast<;>omega)|omega) only [go_sem];refine AXs.loop mixed (zh) (zg) (fun k:Nat=>[(0,.int .i64 n),(1,.int .i64 T),(5,.sl 0 0 L.length 1 none),(6,.int .i64 i),(7,slM 1 (accK n L k)),(8,.int .i64 k)]) (fun k=>⟨blkM 1 (accK n L k) [(0,.cells (zbe L))],2⟩) (fun k=>k≤L.length) (fun k=>L.length - k) 0 (by kernel_rfl) (Nat.zero_le _) (Sub.of0 [(0,0)] rfl rfl ?_ ?_) ?_
   ·simp only [go_sem];exact(show Rn _ _ V.nilS V.nilS from .same .nilS)
   ·exact(show subH _ _ _ [(0,Blk.cells (zbe L))]from by simp only [go_sem])
   intro k h3;simp (disch:=first|assumption|(push_cast<;>omega)|omega) only [go_sem];refine AXc.introP (fun h4=>?_) (fun h4=>?_)
   ·have hk:k<L.length:=by omega
    have hak:=zz7 n L k hk;have hrk:=hrl k hk;have hrat:=zpS L k hk;simp (disch:=first|assumption|(push_cast<;>omega)|omega) only [go_sem];refine AXs.loopF mixed zh zg (fun t:Nat=>[(0,.int .i64 n),(1,.int .i64 T),(5,.sl 0 0 L.length 1 none),(6,.int .i64 i),(7,slM 1 (acU n L k t)),(8,.int .i64 k),(9,.int .i64 t)]) (fun t=>⟨blkM 1 (acU n L k t) [(0,.cells (zbe L))],2⟩) (fun t=>t≤n) (fun t=>n - t) 0 (by kernel_rfl) (Nat.zero_le _) ?_ ?_
    ·rw [acU_zero];by_cases ha:accK n L k=[]
     ·rw [ha,zdf,zcj];refine Sub.of0 [(0,0)] rfl rfl ?_ ?_
      ·simp only [go_sem]
      ·simp only [go_sem]
     ·rw [zcW 1 ha,zbV 1 ha];refine Sub.of0 [(0,0),(1,1)] rfl rfl ?_ ?_
      ·simp only [go_sem]
      ·simp only [go_sem]
    intro t h5;simp (disch:=first|assumption|(push_cast<;>omega)|omega) only [go_sem];refine AXc.introP (fun h6=>?_) (fun h6=>?_)
    ·have ht:t<n:=by omega
     have hst:=acU_step n L k t;have hlt:=hle k t hk h5;generalize L.getD k []=row at hst hrk hrat;generalize acU n L k t=acc at hst hlt ⊢;have nn:acc++[row++[t]]≠[]:=by simp
     have nl:(acc++[row++[t]]).length=acc.length+1:=by simp
     have tk1:List.take row.length row=row:=List.take_length;have tk2:List.take acc.length (zbe acc)=zbe acc:=List.take_of_length_le (by rw [zlz];exact Nat.le_refl _);by_cases ha:acc=[]<;>by_cases hr:row=[]
     ·subst ha hr;simp (disch:=first|assumption|(push_cast<;>omega)|omega) only [go_sem,zdf,zcj,hrat];refine⟨⟨by omega,by omega⟩,by omega,?_⟩;refine zgA (t+1) (by omega) (by omega) [3] [(5,zbe ([]++[[]++[t]])),(0,zbe L)] (env':=[(0,.int .i64 n),(1,.int .i64 T),(5,.sl 0 0 L.length 1 none),(6,.int .i64 i),(7,.sl 5 0 (([]++[[]++[t]]).length) 1 none),(8,.int .i64 k),(9,.int .i64 (t+1:Nat))]) (n':=6) rfl rfl rfl ?_ ?_ ?_
      ·simp only [go_sem,nl,List.length_append,List.length_cons,List.length_nil];exact⟨.inl ⟨by simp,rfl⟩,.inl ⟨by simp,rfl⟩,.inl (by simp)⟩
      ·refine⟨⟨by decide,by simp,?_⟩,⟨by decide,by simp,zei (zan L)⟩,trivial⟩;show lFz _ _ _ _ _;skip;exact zkt [] [] t 3 (by simp) (by rfl)
      ·rw [hst,zcW 1 nn,zbV 1 nn];refine Sub.of0 [(0,0),(1,5)] rfl rfl ?_ ?_
       ·simp only [go_sem]
       ·simp only [go_sem];exact⟨.cells (zt (zan _)),.cells (zt (zan _))⟩
     ·have r0:(row.length=0)=False:=eq_false fun h=>hr (List.eq_nil_of_length_eq_zero h);subst ha;simp (disch:=first|assumption|(push_cast<;>omega)|omega) only [go_sem,zdf,zcj,hrat,r0,if_false];refine⟨⟨by omega,by omega⟩,by omega,⟨by omega,by omega⟩,⟨by omega,by omega⟩,?_⟩;refine zgA (t+1) (by omega) (by omega) [4] [(6,zbe ([]++[row++[t]])),(0,zbe L)] (env':=[(0,.int .i64 n),(1,.int .i64 T),(5,.sl 0 0 L.length 1 none),(6,.int .i64 i),(7,.sl 6 0 (([]++[row++[t]]).length) 1 none),(8,.int .i64 k),(9,.int .i64 (t+1:Nat))]) (n':=7) rfl rfl rfl ?_ ?_ ?_
      ·simp only [go_sem,nl,List.length_append,List.length_cons,List.length_nil];exact⟨.inl ⟨by simp,rfl⟩,.inl ⟨by simp,rfl⟩,.inl (by simp)⟩
      ·refine⟨⟨by decide,by simp,?_⟩,⟨by decide,by simp,zei (zan L)⟩,trivial⟩;show lFz _ _ _ _ _;skip;exact zkt [] row t 4 (by simp) (by show some (Blk.cells _)=_;rw [tk1])
      ·rw [hst,zcW 1 nn,zbV 1 nn];refine Sub.of0 [(0,0),(1,6)] rfl rfl ?_ ?_
       ·simp only [go_sem]
       ·simp only [go_sem];exact⟨.cells (zt (zan _)),.cells (zt (zan _))⟩
     ·subst hr;simp (disch:=first|assumption|(push_cast<;>omega)|omega) only [go_sem,zcW 1 ha,zbV 1 ha,hrat];refine⟨⟨by omega,by omega⟩,by omega,⟨by omega,by omega⟩,?_⟩;refine zgA (t+1) (by omega) (by omega) [3] [(5,zbe (acc++[[]++[t]])),(0,zbe L)] (env':=[(0,.int .i64 n),(1,.int .i64 T),(5,.sl 0 0 L.length 1 none),(6,.int .i64 i),(7,.sl 5 0 ((acc++[[]++[t]]).length) 1 none),(8,.int .i64 k),(9,.int .i64 (t+1:Nat))]) (n':=6) rfl rfl rfl ?_ ?_ ?_
      ·simp only [go_sem,nl,List.length_append,List.length_cons,List.length_nil];exact⟨.inl ⟨by simp,rfl⟩,.inl ⟨by simp,rfl⟩,.inl (by simp)⟩
      ·refine⟨⟨by decide,by simp,?_⟩,⟨by decide,by simp,zei (zan L)⟩,trivial⟩;show lFz _ _ _ _ _;rw [tk2];exact zkt acc [] t 3 (by simp) (by rfl)
      ·rw [hst,zcW 1 nn,zbV 1 nn];refine Sub.of0 [(0,0),(1,5)] rfl rfl ?_ ?_
       ·simp only [go_sem]
       ·simp only [go_sem];exact⟨.cells (zt (zan _)),.cells (zt (zan _))⟩
     ·have r0:(row.length=0)=False:=eq_false fun h=>hr (List.eq_nil_of_length_eq_zero h);simp (disch:=first|assumption|(push_cast<;>omega)|omega) only [go_sem,zcW 1 ha,zbV 1 ha,hrat,r0,if_false];refine⟨⟨by omega,by omega⟩,by omega,⟨by omega,by omega⟩,⟨by omega,by omega⟩,⟨by omega,by omega⟩,?_⟩;refine zgA (t+1) (by omega) (by omega) [4] [(6,zbe (acc++[row++[t]])),(0,zbe L)] (env':=[(0,.int .i64 n),(1,.int .i64 T),(5,.sl 0 0 L.length 1 none),(6,.int .i64 i),(7,.sl 6 0 ((acc++[row++[t]]).length) 1 none),(8,.int .i64 k),(9,.int .i64 (t+1:Nat))]) (n':=7) rfl rfl rfl ?_ ?_ ?_
      ·simp only [go_sem,nl,List.length_append,List.length_cons,List.length_nil];exact⟨.inl ⟨by simp,rfl⟩,.inl ⟨by simp,rfl⟩,.inl (by simp)⟩
      ·refine⟨⟨by decide,by simp,?_⟩,⟨by decide,by simp,zei (zan L)⟩,trivial⟩;show lFz _ _ _ _ _;rw [tk2];exact zkt acc row t 4 (by simp) (by show some (Blk.cells _)=_;rw [tk1])
      ·rw [hst,zcW 1 nn,zbV 1 nn];refine Sub.of0 [(0,0),(1,6)] rfl rfl ?_ ?_
       ·simp only [go_sem]
       ·simp only [go_sem];exact⟨.cells (zt (zan _)),.cells (zt (zan _))⟩
    ·obtain rfl:t=n:=by omega
     rw [←hak];simp only [go_sem];refine AXa.go mixed (zh) (zg) (by kernel_rfl) ?_;simp (disch:=first|assumption|(push_cast<;>omega)|omega) only [go_sem];refine zk (k+1) (by omega) (by omega) ?_;by_cases ha:accK t L (k+1)=[]
     ·rw [ha,zdf,zcj];refine Sub.of0 [(0,0)] rfl rfl ?_ ?_
      ·simp only [go_sem];simp
      ·simp only [go_sem]
     ·rw [zcW 1 ha,zbV 1 ha];refine Sub.of0 [(0,0),(1,1)] rfl rfl ?_ ?_
      ·simp only [go_sem];simp
      ·simp only [go_sem]
   ·obtain rfl:k=L.length:=by omega
    rw [hall];by_cases ha:LL n (i+1)=[]
    ·rw [ha,zdf,zcj];simp only [go_sem];refine AXa.go mixed (zh) (zg) (by kernel_rfl) ?_;simp (disch:=first|assumption|(push_cast<;>omega)|omega) only [go_sem];refine zk (i+1) (by omega) (by omega) ?_;rw [ha,zdf,zcj];refine Sub.of0 [] rfl rfl ?_ ?_
     ·simp only [go_sem];simp
     ·simp only [go_sem]
    ·rw [zcW 1 ha,zbV 1 ha];simp only [go_sem];refine AXa.go mixed (zh) (zg) (by kernel_rfl) ?_;simp (disch:=first|assumption|(push_cast<;>omega)|omega) only [go_sem];refine zk (i+1) (by omega) (by omega) ?_;rw [zcW 0 ha,zbV 0 ha];refine Sub.of0 [(0,1)] rfl rfl ?_ ?_
     ·simp only [go_sem];simp
     ·simp only [go_sem]
 ·obtain rfl:i=T:=by omega
  generalize LL n i=L;by_cases ha:L=[]
  ·subst ha;rw [zdf,zcj];simp only [go_sem];refine AXa.go mixed (zh) (zg) (by kernel_rfl) ?_;simp (disch:=first|assumption|(push_cast<;>omega)|omega) only [go_sem];rfl
  ·rw [zcW 0 ha,zbV 0 ha];simp only [go_sem];refine AXa.go mixed (zh) (zg) (by kernel_rfl) ?_;simp (disch:=first|assumption|(push_cast<;>omega)|omega) only [go_sem];refine .sl rfl (by simp [zbe]) (by simp [zbe]) fun i x y hx hy=>?_;rw [List.drop_zero,Nat.mul_one,List.take_of_length_le (by simp [zbe])]at hx;rw [hx]at hy;cases hy;exact .pure (zan _ _ (List.mem_of_getElem? hx))
end Go.Proofs
