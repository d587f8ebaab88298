/- A row of probabilities, as the program makes it: (table).row. -/
import Derived.Test.YtfilkkmcagndlaaGreatDoorQRat2
import Derived.Test.YtfilkkmcagndlaaGreatDoorQRat5
import Derived.Test.YtfilkkmcagndlaaGreatDoorQFmt
set_option linter.all false
namespace Go.Ab
theorem AXa.fzN {C:Cfg}{P:Program}{K:Out→St→Prop}{st:List Fr}{y:Code}{env env':Env}{bs bs':List (Nat×Blk)}{n n':Nat}(fl:List Nat)(hW:C.Wm=[])(hl:∀ b∈fl,C.nx≤b∧(zaM bs b).isSome=true)
 (he:fzE (· ∈fl) n' ⟨bs,n⟩ env env') (hh:fzH (· ∈fl) n' bs bs') (hel:∀ b,b<C.nx→zaM bs' b=zaM bs b) (hn:C.nx≤n') (hx:AXa C P K st y env' ⟨bs',n'⟩):AXa C P K st y env ⟨bs,n⟩:=by
 refine AX.freeze (F:=(· ∈fl)) hW ⟨zyi he,fun b x' e=>?_,fun b hb=>⟨(hl b hb).1,?_⟩,fun b hb=>?_,hn⟩ hx
 ·obtain⟨h1,h2,x,h3,h4⟩:=zyh hh b x' e
  exact⟨h1,h2,x,by rw [zd7];exact h3,h4⟩
 ·have:=(hl b hb).2
  rw [Option.isSome_iff_exists]at this
  rw [zd7];exact this
 ·show (⟨bs',n'⟩:Hp).get b=(⟨bs,n⟩:Hp).get b
  rw [zd7,zd7];exact hel b hb
end Go.Ab
namespace Go.Proofs
open Go.Ab Go.Cnt Go.Pl
noncomputable def zuU:List V→Option PR:=zD (fun n:Nat=>[.int .i64 n]) (fun n=>n≤1000000000000) (fun n=>.ret (.str (dec n)))
theorem cItoa_ok:∀ args r,zuU args=some r→PCall Tryz.prog 64 args r:=zo fun n h=>itoa_ok n (by omega)
theorem zhi(n:Nat)(h:n≤1000000000000):zuU [.int .i64 n]=some (.ret (.str (dec n))):=zn (pat:=fun n:Nat=>[V.int .i64 n]) (fun x y h=>by simp at h;omega) n h
theorem zpO(a b:List UInt8)(la:a.length≤1000000000)(lb:b.length≤1000000000):zpP [.str a,.str b]=some (.ret (.tup [.str (resP (zK a b)).1,.int .i64 (resP (zK a b)).2])):=by have h:=zuF a b la lb;obtain⟨s,e,hse⟩:=zhP a b;rw [hse,zeO, ←hse];exact h
theorem zfd(a b:List UInt8)(la:a.length≤1000000000)(lb:b.length≤1000000000):zpS [.str a,.str b]=some (.ret (.tup [.str (resP (zG a b)).1,.int .i64 (resP (zG a b)).2])):=by have h:=zuK a b la lb;obtain⟨s,e,hse⟩:=ze3 a b;rw [hse,zeO, ←hse];exact h
theorem ziy(a b:List UInt8)(la:a.length≤1000000000)(lb:b.length≤1000000000):zpQ [.str a,.str b]=some (.ret (.tup [.str (resP (zaW a b)).1,.int .i64 (resP (zaW a b)).2])):=by have h:=zuH a b la lb;obtain⟨s,e,hse⟩:=zhR a b;rw [hse,zeO, ←hse];exact h
def cntL(N:List Ent)(a:Str)(L:List Str):List Nat:=L.map fun b=>(val N (a,b)).toNat
def zvk(k:Str)(len sum:Nat)(ns:List Nat):Prop:=(resP (zK k (dec len))).2=0→resP (zG (resP (zK k (dec len))).1 (dec sum))=([48],0)→∀ j,j<ns.length→pR [48] k (ns.getD j 0)=([48],0)
theorem zlM(N:List Ent)(a:Str)(L:List Str):(cntL N a L).length=L.length:=by simp [cntL]
theorem zlN(N:List Ent)(a:Str)(L:List Str)(j:Nat)(h:j<L.length):(cntL N a L).getD j 0=(val N (a,L.getD j [])).toNat:=by simp [cntL,List.getD_eq_getElem?_getD,h]
theorem zeI {j:Nat}(acc:List Str)(h:acc.length=j):List.take j acc=acc:=List.take_of_length_le (by omega)
set_option maxHeartbeats 16000000 in
set_option maxRecDepth 100000 in
theorem prow_ok(N:List Ent)(S:Ens)(L:List Str)(a k:Str)(hL0:0<L.length)(hL:L.length≤100000)(hN:∀ x,0≤val N x∧val N x≤1000000)(hS:0≤valS S a∧valS S a≤1000000000000)(lk:k.length≤1000000)(hz:zvk k L.length (valS S a).toNat (cntL N a L)):
 NCall Tryz.prog 37 [.agg [.map 0,.map 1],.str a,.sl 2 0 L.length 1 none,.str k] [.mp (mpF 0 N) N.length,.mp (mpS 0 S) S.length,.cells (strs L)] []
  (ze4 k L.length (valS S a).toNat (cntL N a L)) ⟨numB 0 [.mp (mpF 0 N) N.length,.mp (mpS 0 S) S.length,.cells (strs L)],3⟩:=by
 have hΓ:=zf cItoa_ok (zf zuE (zf zuJ (zf zuG zh)))
 refine NCall.walk (rs:=[.tmp 8,.tmp 9]) [0,1,2,3,4,8,9,10,12,13,14,24,35,36,37,38,42,45,62,76] [] 3 mixed (hΓ) (zg) call37 Tryz.func37 rfl Tryz.ntmps37 rfl (by kernel_rfl) (by simp) (by simp) (by simp) ?_
 have r0:zuU [.int .i64 (L.length:Int)]=some (.ret (.str (dec L.length))):=zhi L.length (by omega)
 have r1:=zpO k (dec L.length) (by omega) (by have:=zax (n:=L.length) (k:=7) (by omega) (by omega);omega)
 have lm:=zoO k (dec L.length)
 obtain⟨s,hs⟩:∃ s,s=(valS S a).toNat:=⟨_,rfl⟩
 have hs':valS S a=(s:Int):=by omega
 rw [←hs]at hz ⊢
 have lS:(dec s).length≤14:=zax (by omega) (by omega)
 have r2:=zfd (resP (zK k (dec L.length))).1 (dec s) (by omega) (by omega)
 have lA:=zdG (resP (zK k (dec L.length))).1 (dec s)
 have p1:zcL k L.length s (cntL N a L)=if (resP (zK k (dec L.length))).2≠0 then((resP (zK k (dec L.length))).2,[])else if (resP (zG (resP (zK k (dec L.length))).1 (dec s))).2≠0 then((resP (zG (resP (zK k (dec L.length))).1 (dec s))).2,[])else outR (resP (zG (resP (zK k (dec L.length))).1 (dec s))).1 k (cntL N a L) (cntL N a L).length:=rfl
 unfold zvk at hz
 have r3:zuU [.int .i64 (s:Int)]=some (.ret (.str (dec s))):=zhi s (by omega)
 have hcl:=zlM N a L
 have hcg:=zlN N a L
 generalize cntL N a L=ns at hz p1 hcl hcg ⊢
 simp (disch:=first|assumption|(push_cast<;>omega)|omega) only [go_sem,r0,r1]
 generalize resP (zK k (dec L.length))=m1 at r1 lm r2 p1 lA hz ⊢
 obtain⟨s1,f1⟩:=m1
 dsimp only at r1 lm r2 p1 lA hz ⊢
 generalize resP (zG s1 (dec s))=m2 at r2 p1 lA hz ⊢
 obtain⟨all,f2⟩:=m2
 dsimp only at r2 p1 lA hz ⊢
 have e0:decide ((0:Int)<(L.length:Int))=true:=decide_eq_true (by omega)
 refine AXc.introP (fun h6=>?_) (fun h6=>?_)
 rotate_left
 ·rw [if_pos h6]at p1
  simp (disch:=first|assumption|(push_cast<;>omega)|omega) only [go_sem]
  refine AXs.rounds mixed hΓ zg [()] (by kernel_rfl) ?_
  simp (disch:=first|assumption|(push_cast<;>omega)|omega) only [go_sem,e0]
  (repeat refine sdC ?_)
  refine AXc.introN (fun h8=>?_) (fun h8=>absurd h8 h6)
  simp (disch:=first|assumption|(push_cast<;>omega)|omega) only [go_sem]
  rw [ze4,p1]
  refine⟨[(8,.fs [] 0),(9,.int .i64 f1)],Sub.of [] rfl ?_ ?_ (by decide) (fun b hb hw=>?_),rfl⟩
  ·simp only [go_sem]
  ·simp only [go_sem]
   exact⟨zaH _ _ _ _ rfl rfl,zaf _ _ _ _ rfl rfl⟩
  ·rcases b with _|_|_|b
   ·rfl
   ·rfl
   ·rfl
   ·exact absurd hb (by simp)
 rw [if_neg (by simpa using h6)]at p1
 simp (disch:=first|assumption|(push_cast<;>omega)|omega) only [go_sem,r2,r3,hs']
 by_cases h7:f2=0
 rotate_left
 ·rw [if_pos h7]at p1
  refine AXs.rounds mixed hΓ zg [()] (by kernel_rfl) ?_
  simp (disch:=first|assumption|(push_cast<;>omega)|omega) only [go_sem,e0]
  (repeat refine sdC ?_)
  refine AXc.introN (fun h8=>?_) (fun h8=>absurd h8 h7)
  simp (disch:=first|assumption|(push_cast<;>omega)|omega) only [go_sem]
  rw [ze4,p1]
  refine⟨[(8,.fs [] 0),(9,.int .i64 f2)],Sub.of [] rfl ?_ ?_ (by decide) (fun b hb hw=>?_),rfl⟩
  ·simp only [go_sem]
  ·simp only [go_sem]
   exact⟨zaH _ _ _ _ rfl rfl,zaf _ _ _ _ rfl rfl⟩
  ·rcases b with _|_|_|b
   ·rfl
   ·rfl
   ·rfl
   ·exact absurd hb (by simp)
 rw [if_neg (by simpa using h7)]at p1
 subst h7
 replace hz:=fun hall=>hz (by simpa using h6) hall
 refine AXs.loop mixed (hΓ) (zg) (fun p:Nat×List Str×Int=>[(37,.int .i64 p.1),(36,.int .i64 L.length),(35,.sl 2 0 L.length 1 none),(9,.int .i64 p.2.2),(10,.str all),(8,slS 4 p.2.1),(4,.ptr 3 0),(1,.str a),(3,.str k)])
  (fun p=>⟨blkS 4 p.2.1 [(3,.cells [.map 0,.map 1]),(0,.mp (mpF 0 N) N.length),(1,.mp (mpS 0 S) S.length),(2,.cells (strs L))],5⟩)
  (fun p=>p.1≤L.length∧p.2.1.length=p.1∧(p.2.2=0→outR all k ns p.1=(0,p.2.1))∧(p.2.2≠0→outR all k ns ns.length=(p.2.2,[]))) (fun p=>L.length - p.1) (0,[],0) (by kernel_rfl) ⟨Nat.zero_le _,rfl,fun _=>rfl,fun h=>absurd rfl h⟩ (Sub.of [] rfl ?_ ?_ (by decide) (fun b hb hw=>?_)) ?_
 ·simp only [go_sem,zdD]
 ·simp only [go_sem,zcx]
  exact⟨zaH _ _ _ _ rfl rfl,zaf _ _ _ _ rfl rfl⟩
 ·rcases b with _|_|_|b
  ·rfl
  ·rfl
  ·rfl
  ·exact absurd hb (by simp)
 rintro⟨j,acc,e⟩ ⟨h1,h2,h3,h4⟩
 dsimp only at h1 h2 h3 h4 ⊢
 by_cases hj:j<L.length
 ·have ej:decide ((j:Int)<(L.length:Int))=true:=decide_eq_true (by omega)
  by_cases ne:acc=[]
  ·have h20:j=0:=by rw [←h2,ne];rfl
   simp (disch:=first|assumption|(push_cast<;>omega)|omega) only [go_sem,ne,zdD,zcx,ej]
   (repeat refine sdC ?_)
   refine AXc.introN (fun h8=>?_) (fun h8=>?_)
   ·rw [h4 h8]at p1
    simp (disch:=first|assumption|(push_cast<;>omega)|omega) only [go_sem]
    rw [ze4,p1]
    refine⟨[(8,.fs [] 0),(9,.int .i64 e)],Sub.of [] rfl ?_ ?_ (by decide) (fun b hb hw=>by rcases b with _|_|_|b<;>first|rfl|exact absurd hb (by simp)),rfl⟩
    ·simp only [go_sem]
    ·simp only [go_sem]
     exact⟨zaH _ _ _ _ rfl rfl,zaf _ _ _ _ rfl rfl⟩
   have h8':e=0:=by simpa using h8
   have ho:=h3 h8'
   have hstep:outR all k ns (j+1)=if (pR all k (ns.getD j 0)).2≠0 then((pR all k (ns.getD j 0)).2,[])else(0,acc++[(pR all k (ns.getD j 0)).1]):=by rw [outR,ho,if_neg (by simp)]
   have hfin:(pR all k (ns.getD j 0)).2≠0→outR all k ns ns.length=((pR all k (ns.getD j 0)).2,[]):=fun h=>by rw [if_pos h]at hstep;rw [zkZ (j:=j+1) (by rw [hstep];exact h) ns.length (by omega),hstep]
   rw [ne,List.nil_append]at hstep
   simp (disch:=first|assumption|(push_cast<;>omega)|omega) only [go_sem]
   refine AXc.introP (fun h9=>?_) (fun h9=>?_)
   ·have hp:=hz (by rw [h9]) j (by omega)
    rw [h9,hp,if_neg (by simp)]at hstep
    simp (disch:=first|assumption|(push_cast<;>omega)|omega) only [go_sem]
    (repeat refine sdC ?_)
    refine zk (j+1,[([48]:Str)],e) ⟨by dsimp only;omega,by simp only [List.length_cons,List.length_nil];omega,fun _=>by dsimp only;rw [h9];exact hstep,fun h=>absurd h8' h⟩ (by dsimp only;omega) ?_
    have nn:[([48]:Str)]≠[]:=by simp
    have nl:([([48]:Str)]).length=j+1:=by simp only [List.length_cons,List.length_nil];omega
    dsimp only
    rw [za1 4 nn,zay 4 nn,nl]
    refine Sub.of [(4,6)] rfl ?_ ?_ (by decide) (fun b hb hw=>by rcases b with _|_|_|b<;>first|rfl|exact absurd hb (by simp))
    ·simp (disch:=first|assumption|(push_cast<;>omega)|omega) only [go_sem,h2]
     exact⟨by simp,h20⟩
    ·simp (disch:=first|assumption|(push_cast<;>omega)|omega) only [go_sem,zeI acc h2]
     exact⟨rfl,zaH _ _ _ _ rfl rfl,zaf _ _ _ _ rfl rfl⟩
   ·have hcj:=hcg j hj
    have hvj:val N (a,L.getD j [])=((ns.getD j 0:Nat):Int):=by rw [hcj];have:=(hN (a,L.getD j [])).1;omega
    have hcb:ns.getD j 0≤1000000:=by have:=(hN (a,L.getD j [])).2;omega
    generalize ns.getD j 0=c at hcj hvj hcb hstep hfin
    have r4:zuU [.int .i64 (c:Int)]=some (.ret (.str (dec c))):=zhi c (by omega)
    have lc:(dec c).length≤13:=zax (by omega) (by omega)
    have r5:=zfd (dec c) k (by omega) (by omega)
    have lB:=zdG (dec c) k
    have r6:=ziy (resP (zG (dec c) k)).1 all (by omega) (by omega)
    unfold pR at hstep hfin
    generalize resP (zG (dec c) k)=m3 at r5 r6 lB hstep hfin ⊢
    obtain⟨s3,f3⟩:=m3
    dsimp only at r5 r6 lB hstep hfin ⊢
    simp (disch:=first|assumption|(push_cast<;>omega)|omega) only [go_sem,hvj,r4,r5]
    (repeat refine sdC ?_)
    refine AXc.introP (fun h10=>?_) (fun h10=>?_)
    ·have h11:f3=0∧all≠[48]:=⟨h10,h9⟩
     simp only [if_pos h11]at hstep hfin
     generalize resP (zaW s3 all)=m4 at r6 hstep hfin ⊢
     obtain⟨s4,f4⟩:=m4
     dsimp only at r6 hstep hfin ⊢
     simp (disch:=first|assumption|(push_cast<;>omega)|omega) only [go_sem,r6]
     (repeat refine sdC ?_)
     refine zk (j+1,[s4],f4) ⟨by dsimp only;omega,by simp only [List.length_cons,List.length_nil];omega,fun h=>by rw [if_neg (by simpa using h)]at hstep;exact hstep,fun h=>hfin h⟩ (by dsimp only;omega) ?_
     have nn:[s4]≠[]:=by simp
     have nl:([s4]).length=j+1:=by simp only [List.length_cons,List.length_nil];omega
     dsimp only
     rw [za1 4 nn,zay 4 nn,nl]
     refine Sub.of [(4,6)] rfl ?_ ?_ (by decide) (fun b hb hw=>by rcases b with _|_|_|b<;>first|rfl|exact absurd hb (by simp))
     ·simp (disch:=first|assumption|(push_cast<;>omega)|omega) only [go_sem,h2]
      exact⟨by simp,h20⟩
     ·simp (disch:=first|assumption|(push_cast<;>omega)|omega) only [go_sem,zeI acc h2]
      exact⟨rfl,zaH _ _ _ _ rfl rfl,zaf _ _ _ _ rfl rfl⟩
    ·have h11:¬(f3=0∧all≠[48]):=fun h=>h10 h.1
     simp only [if_neg h11]at hstep hfin
     simp (disch:=first|assumption|(push_cast<;>omega)|omega) only [go_sem]
     (repeat refine sdC ?_)
     refine zk (j+1,[s3],f3) ⟨by dsimp only;omega,by simp only [List.length_cons,List.length_nil];omega,fun h=>absurd h h10,fun h=>hfin h⟩ (by dsimp only;omega) ?_
     have nn:[s3]≠[]:=by simp
     have nl:([s3]).length=j+1:=by simp only [List.length_cons,List.length_nil];omega
     dsimp only
     rw [za1 4 nn,zay 4 nn,nl]
     refine Sub.of [(4,6)] rfl ?_ ?_ (by decide) (fun b hb hw=>by rcases b with _|_|_|b<;>first|rfl|exact absurd hb (by simp))
     ·simp (disch:=first|assumption|(push_cast<;>omega)|omega) only [go_sem,h2]
      exact⟨by simp,h20⟩
     ·simp (disch:=first|assumption|(push_cast<;>omega)|omega) only [go_sem,zeI acc h2]
      exact⟨rfl,zaH _ _ _ _ rfl rfl,zaf _ _ _ _ rfl rfl⟩
  ·simp (disch:=first|assumption|(push_cast<;>omega)|omega) only [go_sem,za1 4 ne,zay 4 ne,ej]
   (repeat refine sdC ?_)
   refine AXc.introN (fun h8=>?_) (fun h8=>?_)
   ·rw [h4 h8]at p1
    simp (disch:=first|assumption|(push_cast<;>omega)|omega) only [go_sem]
    rw [ze4,p1]
    refine⟨[(8,.fs [] 0),(9,.int .i64 e)],Sub.of [] rfl ?_ ?_ (by decide) (fun b hb hw=>by rcases b with _|_|_|b<;>first|rfl|exact absurd hb (by simp)),rfl⟩
    ·simp only [go_sem]
    ·simp only [go_sem]
     exact⟨zaH _ _ _ _ rfl rfl,zaf _ _ _ _ rfl rfl⟩
   have h8':e=0:=by simpa using h8
   have ho:=h3 h8'
   have hstep:outR all k ns (j+1)=if (pR all k (ns.getD j 0)).2≠0 then((pR all k (ns.getD j 0)).2,[])else(0,acc++[(pR all k (ns.getD j 0)).1]):=by rw [outR,ho,if_neg (by simp)]
   have hfin:(pR all k (ns.getD j 0)).2≠0→outR all k ns ns.length=((pR all k (ns.getD j 0)).2,[]):=fun h=>by rw [if_pos h]at hstep;rw [zkZ (j:=j+1) (by rw [hstep];exact h) ns.length (by omega),hstep]
   simp (disch:=first|assumption|(push_cast<;>omega)|omega) only [go_sem]
   refine AXc.introP (fun h9=>?_) (fun h9=>?_)
   ·have hp:=hz (by rw [h9]) j (by omega)
    rw [h9,hp,if_neg (by simp)]at hstep
    simp (disch:=first|assumption|(push_cast<;>omega)|omega) only [go_sem]
    (repeat refine sdC ?_)
    refine zk (j+1,acc++[[48]],e) ⟨by dsimp only;omega,by simp [h2],fun _=>by dsimp only;rw [h9];exact hstep,fun h=>absurd h8' h⟩ (by dsimp only;omega) ?_
    have nn:acc++[([48]:Str)]≠[]:=by simp
    have nl:(acc++[[48]]).length=j+1:=by simp [h2]
    dsimp only
    rw [za1 4 nn,zay 4 nn,nl]
    refine Sub.of [(4,6)] rfl ?_ ?_ (by decide) (fun b hb hw=>by rcases b with _|_|_|b<;>first|rfl|exact absurd hb (by simp))
    ·simp (disch:=first|assumption|(push_cast<;>omega)|omega) only [go_sem,h2]
     simp
    ·simp (disch:=first|assumption|(push_cast<;>omega)|omega) only [go_sem,zeI acc h2]
     exact⟨by rw [List.take_length],zaH _ _ _ _ rfl rfl,zaf _ _ _ _ rfl rfl⟩
   ·have hcj:=hcg j hj
    have hvj:val N (a,L.getD j [])=((ns.getD j 0:Nat):Int):=by rw [hcj];have:=(hN (a,L.getD j [])).1;omega
    have hcb:ns.getD j 0≤1000000:=by have:=(hN (a,L.getD j [])).2;omega
    generalize ns.getD j 0=c at hcj hvj hcb hstep hfin
    have r4:zuU [.int .i64 (c:Int)]=some (.ret (.str (dec c))):=zhi c (by omega)
    have lc:(dec c).length≤13:=zax (by omega) (by omega)
    have r5:=zfd (dec c) k (by omega) (by omega)
    have lB:=zdG (dec c) k
    have r6:=ziy (resP (zG (dec c) k)).1 all (by omega) (by omega)
    unfold pR at hstep hfin
    generalize resP (zG (dec c) k)=m3 at r5 r6 lB hstep hfin ⊢
    obtain⟨s3,f3⟩:=m3
    dsimp only at r5 r6 lB hstep hfin ⊢
    simp (disch:=first|assumption|(push_cast<;>omega)|omega) only [go_sem,hvj,r4,r5]
    (repeat refine sdC ?_)
    refine AXc.introP (fun h10=>?_) (fun h10=>?_)
    ·have h11:f3=0∧all≠[48]:=⟨h10,h9⟩
     simp only [if_pos h11]at hstep hfin
     generalize resP (zaW s3 all)=m4 at r6 hstep hfin ⊢
     obtain⟨s4,f4⟩:=m4
     dsimp only at r6 hstep hfin ⊢
     simp (disch:=first|assumption|(push_cast<;>omega)|omega) only [go_sem,r6]
     (repeat refine sdC ?_)
     refine zk (j+1,acc++[s4],f4) ⟨by dsimp only;omega,by simp [h2],fun h=>by rw [if_neg (by simpa using h)]at hstep;exact hstep,fun h=>hfin h⟩ (by dsimp only;omega) ?_
     have nn:acc++[s4]≠[]:=by simp
     have nl:(acc++[s4]).length=j+1:=by simp [h2]
     dsimp only
     rw [za1 4 nn,zay 4 nn,nl]
     refine Sub.of [(4,6)] rfl ?_ ?_ (by decide) (fun b hb hw=>by rcases b with _|_|_|b<;>first|rfl|exact absurd hb (by simp))
     ·simp (disch:=first|assumption|(push_cast<;>omega)|omega) only [go_sem,h2]
      simp
     ·simp (disch:=first|assumption|(push_cast<;>omega)|omega) only [go_sem,zeI acc h2]
      exact⟨by rw [List.take_length],zaH _ _ _ _ rfl rfl,zaf _ _ _ _ rfl rfl⟩
    ·have h11:¬(f3=0∧all≠[48]):=fun h=>h10 h.1
     simp only [if_neg h11]at hstep hfin
     simp (disch:=first|assumption|(push_cast<;>omega)|omega) only [go_sem]
     (repeat refine sdC ?_)
     refine zk (j+1,acc++[s3],f3) ⟨by dsimp only;omega,by simp [h2],fun h=>absurd h h10,fun h=>hfin h⟩ (by dsimp only;omega) ?_
     have nn:acc++[s3]≠[]:=by simp
     have nl:(acc++[s3]).length=j+1:=by simp [h2]
     dsimp only
     rw [za1 4 nn,zay 4 nn,nl]
     refine Sub.of [(4,6)] rfl ?_ ?_ (by decide) (fun b hb hw=>by rcases b with _|_|_|b<;>first|rfl|exact absurd hb (by simp))
     ·simp (disch:=first|assumption|(push_cast<;>omega)|omega) only [go_sem,h2]
      simp
     ·simp (disch:=first|assumption|(push_cast<;>omega)|omega) only [go_sem,zeI acc h2]
      exact⟨by rw [List.take_length],zaH _ _ _ _ rfl rfl,zaf _ _ _ _ rfl rfl⟩
 ·obtain rfl:j=L.length:=by omega
  have ej:decide ((L.length:Int)<(L.length:Int))=false:=decide_eq_false (by omega)
  have ne:acc≠[]:=by rintro rfl;simp at h2;omega
  simp (disch:=first|assumption|(push_cast<;>omega)|omega) only [go_sem,za1 4 ne,zay 4 ne,ej]
  by_cases h8:e=0
  ·have ho:=h3 h8
   rw [←hcl]at ho
   rw [ho]at p1
   refine AXa.fzN [4] rfl (fun b hb=>by obtain rfl:=List.mem_singleton.1 hb;exact⟨by simp,rfl⟩) (env':=[(9,.int .i64 e),(8,.fs (strs acc) acc.length)]) (bs':=[(3,.cells [.map 0,.map 1]),(0,.mp (mpF 0 N) N.length),(1,.mp (mpS 0 S) S.length),(2,.cells (strs L))]) (n':=5) ?_ ?_ (fun b hb=>by rcases b with _|_|_|b<;>first|rfl|exact absurd hb (by simp)) (by simp) ?_
   ·simp only [go_sem]
    right
    exact FrzF.slp (by simp) rfl rfl (by simp [strs]) (by rw [List.drop_zero,Nat.mul_one,zbW,List.take_length]) (zT _)
   ·simp only [go_sem]
    exact⟨by simp,⟨⟨by simp,rfl⟩,by simp,rfl⟩,by simp,zaH _ _ _ _ rfl rfl,by simp,zaf _ _ _ _ rfl rfl,by simp⟩
   refine AXa.go mixed (hΓ) (zg) (by kernel_rfl) ?_
   simp (disch:=first|assumption|(push_cast<;>omega)|omega) only [go_sem,h8]
   rw [ze4,p1]
   refine⟨[(8,.fs (strs acc) acc.length),(9,.int .i64 0)],Sub.of [] rfl ?_ ?_ (by decide) (fun b hb hw=>by rcases b with _|_|_|b<;>first|rfl|exact absurd hb (by simp)),rfl⟩
   ·simp only [go_sem]
   ·simp only [go_sem]
    exact⟨zaH _ _ _ _ rfl rfl,zaf _ _ _ _ rfl rfl⟩
  ·have ho:=h4 h8
   rw [ho]at p1
   refine AXa.go mixed (hΓ) (zg) (by kernel_rfl) ?_
   simp (disch:=first|assumption|(push_cast<;>omega)|omega) only [go_sem]
   refine AXc.introN (fun h9=>?_) (fun h9=>absurd h9 h8)
   simp (disch:=first|assumption|(push_cast<;>omega)|omega) only [go_sem]
   rw [ze4,p1]
   refine⟨[(8,.fs [] 0),(9,.int .i64 e)],Sub.of [] rfl ?_ ?_ (by decide) (fun b hb hw=>by rcases b with _|_|_|b<;>first|rfl|exact absurd hb (by simp)),rfl⟩
   ·simp only [go_sem]
   ·simp only [go_sem]
    exact⟨zaH _ _ _ _ rfl rfl,zaf _ _ _ _ rfl rfl⟩
theorem zxj:∀ {i:Nat} {l r:List Ent},mpF i l=mpF i r→l=r
 |_,[],[],_=>rfl
 |_,[],_::_,h=>by rw [mpF,mpF]at h;cases h
 |_,_::_,[],h=>by rw [mpF,mpF]at h;cases h
 |i,e::l,e'::r,h=>by rw [mpF,mpF]at h;simp only [List.cons.injEq,Prod.mk.injEq,V.agg.injEq,V.str.injEq,V.int.injEq,and_true,true_and]at h;obtain⟨⟨⟨h1,h2⟩,h3⟩,h4⟩:=h;rw [zxj h4];congr 1;exact Prod.ext (Prod.ext h1 h2) h3
theorem zxi:∀ {i:Nat} {l r:Ens},mpS i l=mpS i r→l=r
 |_,[],[],_=>rfl
 |_,[],_::_,h=>by rw [mpS,mpS]at h;cases h
 |_,_::_,[],h=>by rw [mpS,mpS]at h;cases h
 |i,e::l,e'::r,h=>by rw [mpS,mpS]at h;simp only [List.cons.injEq,Prod.mk.injEq,V.str.injEq,V.int.injEq,and_true,true_and]at h;obtain⟨⟨h1,h3⟩,h4⟩:=h;rw [zxi h4];congr 1;exact Prod.ext h1 h3
structure RowOK(N:List Ent)(S:Ens)(L:List Str)(a k:Str):Prop where
 l0:0<L.length
 ll:L.length≤100000
 nn:∀ x,0≤val N x∧val N x≤1000000
 ss:0≤valS S a∧valS S a≤1000000000000
 kk:k.length≤1000000
 zz:zvk k L.length (valS S a).toNat (cntL N a L)
def RowR(args:List V)(H:Hp)(r:AR):Prop:=
 ∃(b0 b1 b2:Nat) (N:List Ent) (S:Ens) (L:List Str) (a k:Str),args=[.agg [.map b0,.map b1],.str a,.sl b2 0 L.length 1 none,.str k]∧[b0,b1,b2].Nodup∧
  H.get b0=some (.mp (mpF 0 N) N.length)∧H.get b1=some (.mp (mpS 0 S) S.length)∧H.get b2=some (.cells (strs L))∧RowOK N S L a k∧(∀ b x,H.get b=some x→b<H.next)∧
  r=⟨True,ze4 k L.length (valS S a).toNat (cntL N a L),H,[b0,b1,b2],[]⟩
theorem rowR_ok:∀ args H r,RowR args H r→HCall Tryz.prog 37 args H r:=by
 rintro args H r ⟨b0,b1,b2,N,S,L,a,k,rfl,hnd,h0,h1,h2,ok,hk,rfl⟩;have hF':∀(i:Nat) (y:Blk),([.mp (mpF 0 N) N.length,.mp (mpS 0 S) S.length,.cells (strs L)]:List Blk)[i]? =some y→∀ π M,RnB π M y y:=by
  intro i y hy π M;match i with
  |0=>cases hy;exact zaH _ _ _ _ rfl rfl
  |1=>cases hy;exact zaf _ _ _ _ rfl rfl
  |2=>cases hy;exact .cells (zu (zT _))
  |i+3=>simp at hy
 refine HCall.none (prow_ok N S L a k ok.l0 ok.ll ok.nn ok.ss ok.kk ok.zz) (.tup fun x hx=>?_) [b0,b1,b2] _ H rfl hnd ⟨rfl,fun i y z hy hz=>?_⟩ (fun i y hy=>?_) hF' hk
 ·simp only [List.mem_cons,List.not_mem_nil,or_false]at hx;rcases hx with rfl|rfl
  ·exact .fs (zT _)
  ·exact .int _ _
 ·match i with
  |0=>
   cases hy;cases hz;refine .agg rfl fun j u v hu hv=>?_;match j with
   |0=>cases hu;cases hv;exact .map (π:=fun i=>[b0,b1,b2].getD i 0) (b:=0) (by show 0<3;omega)
   |1=>cases hu;cases hv;exact .map (π:=fun i=>[b0,b1,b2].getD i 0) (b:=1) (by show 1<3;omega)
   |j+2=>simp at hu
  |1=>cases hy;cases hz;exact .same (.str _)
  |2=>cases hy;cases hz;exact .sl (π:=fun i=>[b0,b1,b2].getD i 0) (b:=2) (by show 2<3;omega) (.inr rfl)
  |3=>cases hy;cases hz;exact .same (.str _)
  |i+4=>simp at hy
 ·match i with
  |0=>exact⟨b0,rfl,by cases hy;exact h0,hF' 0 y hy _ _⟩
  |1=>exact⟨b1,rfl,by cases hy;exact h1,hF' 1 y hy _ _⟩
  |2=>exact⟨b2,rfl,by cases hy;exact h2,hF' 2 y hy _ _⟩
  |i+3=>simp at hy
theorem rowR_eq(b0 b1 b2:Nat)(N:List Ent)(S:Ens)(L:List Str)(a k:Str)(n:Nat)(bs:List (Nat×Blk))(nx:Nat)(h0:zaM bs b0=some (.mp (mpF 0 N) N.length))(h1:zaM bs b1=some (.mp (mpS 0 S) S.length))(h2:zaM bs b2=some (.cells (strs L)))(hn:n=L.length)
 (ok:RowOK N S L a k) (hnd:[b0,b1,b2].Nodup) (hk:((keysB bs).all fun b=>decide (b<nx))=true):
 conD RowR [.agg [.map b0,.map b1],.str a,.sl b2 0 n 1 none,.str k] ⟨bs,nx⟩=some ⟨True,ze4 k L.length (valS S a).toNat (cntL N a L),⟨bs,nx⟩,[b0,b1,b2],[]⟩:=by
 subst hn
 have g0:(⟨bs,nx⟩:Hp).get b0=_:=(zaP bs b0).trans h0
 have g1:(⟨bs,nx⟩:Hp).get b1=_:=(zaP bs b1).trans h1
 have g2:(⟨bs,nx⟩:Hp).get b2=_:=(zaP bs b2).trans h2
 refine zaN ⟨b0,b1,b2,N,S,L,a,k,rfl,hnd,g0,g1,g2,ok,zbs hk,rfl⟩ ?_
 rintro r' ⟨c0,c1,c2,N',S',L',a',k',e,_,k0,k1,k2,_,_,rfl⟩
 simp only [List.cons.injEq,V.agg.injEq,V.map.injEq,V.str.injEq,V.sl.injEq,and_true,true_and]at e
 obtain⟨⟨rfl,rfl⟩,rfl,⟨rfl,_⟩,rfl⟩:=e
 rw [g0]at k0
 rw [g1]at k1
 rw [g2]at k2
 have e0:mpF 0 N=mpF 0 N':=by have:=Option.some.inj k0;simp only [Blk.mp.injEq]at this;exact this.1
 have e1:mpS 0 S=mpS 0 S':=by have:=Option.some.inj k1;simp only [Blk.mp.injEq]at this;exact this.1
 have e2:strs L=strs L':=by simpa using k2
 rw [zxj e0,zxi e1,zbY e2]
end Go.Proofs
