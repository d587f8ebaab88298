/- forward[list], walked. -/
import Derived.Test.YthbimeikbkjnkaaGreatDoorAbMapS
set_option linter.all false
namespace Go.Proofs
open Go.Ab Go.Cnt Go.Pl Go.Tg
def z48:TL:=([48],[])
def o49:TL:=([49],[])
theorem oneL_mk(f:Int)(v u:TL)(j:List Nat)(a b:Str):one stL plL f v u j a b=(betT v (stL (tm f a b).2 u j (tm f a b).1).1,(stL (tm f a b).2 u j (tm f a b).1).2):=rfl
theorem oneL'_mk(f:Int)(v u:TL)(a:Str):one' stL plL f v u a=(betT v (stL f u [] a).1,(stL f u [] a).2):=rfl
theorem zec(a:Str)(b:List Nat):tlV (a,b)=.agg [.str a,tgV b]:=rfl
theorem tlV_z:tlV z48=.agg [.str [48],.nilS]:=rfl
theorem tlV_o:tlV o49=.agg [.str [49],.nilS]:=rfl
theorem pureSN(s:Str):(∀ x∈[V.str s,.nilS],Pure x)↔True:=⟨fun _=>trivial,fun _ x h=>by
 simp only [List.mem_cons,List.not_mem_nil,or_false]at h;rcases h with rfl|rfl
 ·exact .str _
 ·exact .nilS⟩
def zxx(es:List (Nat×V×V)):Prop:=∀ e∈es,Pure e.2.1∧Pure e.2.2
theorem zdR {π:Nat→Nat}{N:Nat→Prop}{es:List (Nat×V×V)}(c:Nat)(h:zxx es):RnB π N (.mp es c) (.mp es c):=
 .mp rfl (zt fun x hx=>by obtain⟨e,he,rfl⟩:=List.mem_map.1 hx;exact(h e he).1) (zt fun x hx=>by obtain⟨e,he,rfl⟩:=List.mem_map.1 hx;exact(h e he).2)
theorem zcS:∀(i:Nat) (l:List V),(∀ x∈l,Pure x)→zxx (mpI i l)
 |_,[],_,e,h=>by cases h
 |i,v::l,hl,e,h=>by
  rcases List.mem_cons.1 h with rfl|h
  ·exact⟨.int _ _,hl v (by simp)⟩
  ·exact zcS (i+1) l (fun x hx=>hl x (by simp [hx])) e h
theorem zcN(l:List TL):∀ x∈l.map tlV,Pure x:=fun x h=>by obtain⟨y,_,rfl⟩:=List.mem_map.1 h;exact zaV y
theorem zgM {n t:Nat}{v:V}{l:List V}(hv:Pure v)(hl:∀ x∈l,Pure x):zxx (befE n t v l):=by
 unfold befE;split
 ·intro e h;rw [List.mem_singleton.1 h];exact⟨.int _ _,hv⟩
 ·exact zcS 0 l hl
theorem zwH(n:Nat)(v:V)(l:List V):befE n 0 v l=[(0,.int .i64 n,v)]:=rfl
theorem zwJ(l:List V):befC 0 l=1:=rfl
theorem zwI(n t:Nat)(v:V)(l:List V):befE n (t+1) v l=mpI 0 l:=rfl
theorem zwK(t:Nat)(l:List V):befC (t+1) l=l.length:=rfl
theorem rn_tgV {π:Nat→Nat}{N:Nat→Prop}(l:List Nat):Rn π N (tgV l) (tgV l)↔True:=⟨fun _=>trivial,fun _=>.same (znZ l)⟩
theorem ztf(l:List Nat):zcQ (tgV l)=[]:=by unfold tgV;split<;>rfl
attribute [go_sem] pureSN rn_tgV ztf
theorem zq8(k:V)(j:Nat):zct k [] j=some none:=rfl
abbrev fwL(m:Mdl)(cs:List Nat)(t:Nat):List TL×Int:=fwdT stL plL m z48 o49 cs t
set_option maxHeartbeats 16000000 in
set_option maxRecDepth 100000 in
theorem fwdL_N(m:Mdl)(cs:List Nat)(hv:vmB m=true)(hf:Fit m)(hcl:cs.length≤1000)(hc:∀ i,i<cs.length→cs.getD i 0≤m.words.length)(hl:∀ i j,(nx m i j).length≤1000000000∧(em m i j).length≤1000000000):
 NCall Tryz.prog 39 [.ptr 0 0,tlV o49,tlV z48,.fn 37 [.ptr 1 0],.fn 40 []] [.cells (runC ⟨m,cs,0⟩),.cells [.ptr 0 0]] [0]
  (tlV (finT stL plL m z48 o49 cs).1) ⟨[(2,.cells [.str (finT stL plL m z48 o49 cs).1.1,tgV (finT stL plL m z48 o49 cs).1.2]),(0,.cells (runC ⟨m,cs,(finT stL plL m z48 o49 cs).2⟩)),(1,.cells [.ptr 0 0])],3⟩:=by
 have hΓ:=zg cBetT_ok zh
 obtain⟨v1,v2,v3,v4,v5,v6⟩:=vm_sizes hv
 have htl:=hf.tl
 have hn:∀ i j,nx m i j=(nthR m.next i).getD j []:=fun i j=>rfl
 have he:∀ i j,em m i j=(nthR m.emit i).getD j []:=fun i j=>rfl
 obtain⟨R,hR⟩:∃ R,R=finT stL plL m z48 o49 cs:=⟨_,rfl⟩
 rw [←hR]
 obtain⟨M,hM⟩:∃ M,M=m:=⟨_,rfl⟩
 rw [←hM]at hR hn he hl
 obtain⟨T,W,N,E⟩:=m
 unfold runC
 dsimp only at v1 v2 v3 v4 hc htl ⊢
 have hMt:M.tags=T:=by rw [hM]
 have hMn:M.next=N:=by rw [hM]
 have hMe:M.emit=E:=by rw [hM]
 rw [hMn]at hn
 rw [hMe]at he
 have hM':=hM
 clear hM
 have qe:∀(bs:List (Nat×Blk)) (n:Nat) (f:Int),zaE bs 0=some (.cells [.fs (strs T) T.length,.fs (strs W) W.length,.fs (zJ N) N.length,.fs (zJ E) E.length,.fs (nats .i64 cs) cs.length,.int .i64 f])→((keysB bs).all fun b=>decide (b<n))=true→ΔF 34 [.ptr 0 0] ⟨bs,n⟩=some ⟨True,.int .i64 T.length,⟨bs,n⟩,[0],[]⟩:=fun bs n f h k=>ΔF_ends 0 ⟨⟨T,W,N,E⟩,cs,f⟩ bs n (by dsimp only;omega) h k
 refine NCall.walkW (rs:=[.cell 10 67]) [0,1,2,3,4,6,7,10,11,13,14,15,16,17,18,19,20,21,22,23,32,33,34,35,44,45,46,51,52,53,61,103,104,105,113] [67] 2 [0] mixed (hΓ) (zd1) call39 Tryz.func39 rfl Tryz.ntmps39 rfl (by kernel_rfl) (by simp) (by simp) (by simp) (by simp) ?_
 rw [tlV_z,tlV_o]
 have q1:=qe [(3,.mp [] 0),(2,.cells [.str [],.nilS]),(0,.cells [.fs (strs T) T.length,.fs (strs W) W.length,.fs (zJ N) N.length,.fs (zJ E) E.length,.fs (nats .i64 cs) cs.length,.int .i64 0]),(1,.cells [.ptr 0 0])] 4 0 rfl rfl
 simp (disch:=first|assumption|(push_cast<;>omega)|omega) only [go_sem,q1,zq8,List.nil_append]
 refine AXk.intro (by kernel_rfl) ?_
 simp (disch:=first|assumption|(push_cast<;>omega)|omega) only [go_sem]
 refine AXs.loop mixed (hΓ) (zd1) (fun t:Nat=>[(0,.ptr 0 0),(3,.fn 37 [.ptr 1 0]),(4,.fn 40 []),(7,.fp [.str [48],.nilS]),(10,.ptr 2 0),(11,.map 3),(32,.fs (nats .i64 cs) cs.length),(33,.int .i64 cs.length),(34,.int .i64 t)])
  (fun t=>⟨[(3,.mp (befE T.length t (tlV o49) ((fwL M cs t).1.map tlV)) (befC t ((fwL M cs t).1.map tlV))),(2,.cells [.str [],.nilS]),(0,.cells [.fs (strs T) T.length,.fs (strs W) W.length,.fs (zJ N) N.length,.fs (zJ E) E.length,.fs (nats .i64 cs) cs.length,.int .i64 (fwL M cs t).2]),(1,.cells [.ptr 0 0])],4⟩) (fun t=>t≤cs.length) (fun t=>cs.length - t) 0 (by kernel_rfl) (Nat.zero_le _) (Sub.of [] rfl ?_ ?_ (by decide) (fun b hb hw=>by rcases b with _|_|b<;>first|rfl|exact absurd (List.mem_singleton.2 rfl) hw|exact absurd hb (by simp))) ?_
 ·simp only [go_sem]
 ·simp only [go_sem,zwH,zwJ]
  exact⟨zdR 1 (zgM (n:=T.length) (t:=0) (v:=tlV o49) (l:=[]) (zaV _) (fun x h=>by cases h)),rfl⟩
 intro t h1
 simp (disch:=first|assumption|(push_cast<;>omega)|omega) only [go_sem]
 refine AXc.introP (fun h2=>?_) (fun h2=>?_)
 ·have ht:t<cs.length:=by omega
  have hct:=hc t ht
  have ef:fwL M cs (t+1)=rowK stL plL M z48 (befT M o49 t (fwL M cs t).1) (cs.getD t 0) (fwL M cs t).2 M.tags.length:=rfl
  have hbo:∀ i u,befT M o49 t (fwL M cs t).1 i=some u→okT t u:=zeC (m:=M) (t:=t) (zes M cs t)
  have hfind:=fun i=>zlM (m:=M) (t:=t) (l:=(fwL M cs t).1) (i:=i) o49 rfl
  rw [hMt]at ef hfind
  have hpe:zxx (befE T.length t (tlV o49) ((fwL M cs t).1.map tlV)):=zgM (zaV _) (zcN _)
  generalize hes:befE T.length t (tlV o49) ((fwL M cs t).1.map tlV)=es at hfind hpe ⊢
  generalize hec:befC t ((fwL M cs t).1.map tlV)=ec
  generalize hbf:befT M o49 t (fwL M cs t).1=bf at ef hbo hfind
  generalize (fwL M cs t).2=f0 at ef ⊢
  generalize hcc:cs.getD t 0=c at hct ef ⊢
  simp (disch:=first|assumption|(push_cast<;>omega)|omega) only [go_sem,hcc]
  (repeat refine sdC ?_)
  refine AXs.loop mixed (hΓ) (zd1) (fun j:Nat=>[(0,.ptr 0 0),(3,.fn 37 [.ptr 1 0]),(4,.fn 40 []),(7,.fp [.str [48],.nilS]),(10,.ptr 2 0),(11,.map 3),(32,.fs (nats .i64 cs) cs.length),(33,.int .i64 cs.length),(34,.int .i64 t),(13,.int .i64 c),(14,.map 4),(44,.int .i64 T.length),(45,.int .i64 j)])
   (fun j=>⟨[(4,.mp (mpI 0 ((rowK stL plL M z48 bf c f0 j).1.map tlV)) j),(3,.mp es ec),(2,.cells [.str [],.nilS]),(0,.cells [.fs (strs T) T.length,.fs (strs W) W.length,.fs (zJ N) N.length,.fs (zJ E) E.length,.fs (nats .i64 cs) cs.length,.int .i64 (rowK stL plL M z48 bf c f0 j).2]),(1,.cells [.ptr 0 0])],5⟩) (fun j=>j≤T.length) (fun j=>T.length - j) 0 (by kernel_rfl) (Nat.zero_le _) (Sub.of [] rfl ?_ ?_ (by decide) (fun b hb hw=>by rcases b with _|_|b<;>first|rfl|exact absurd (List.mem_singleton.2 rfl) hw|exact absurd hb (by simp))) ?_
  ·simp only [go_sem]
  ·simp only [go_sem]
   exact⟨zdR 0 (fun e h=>by cases h),zdR ec hpe,rfl⟩
  intro j h3
  simp (disch:=first|assumption|(push_cast<;>omega)|omega) only [go_sem]
  refine AXc.introP (fun h4=>?_) (fun h4=>?_)
  ·have hj:j<T.length:=by omega
   have er:rowK stL plL M z48 bf c f0 (j+1)=((rowK stL plL M z48 bf c f0 j).1++[(row1 stL plL M z48 bf j c (rowK stL plL M z48 bf c f0 j).2 (T.length+1)).1],(row1 stL plL M z48 bf j c (rowK stL plL M z48 bf c f0 j).2 (T.length+1)).2):=by rw [←hMt];rfl
   have erl:=ziy stL plL M z48 bf c f0 j
   generalize rowK stL plL M z48 bf c f0 j=rk at er erl ⊢
   obtain⟨rl,f1⟩:=rk
   dsimp only at er erl ⊢
   have q2:=qe [(5,.cells [.str [48],.nilS]),(4,.mp (mpI 0 (rl.map tlV)) j),(3,.mp es ec),(2,.cells [.str [],.nilS]),(0,.cells [.fs (strs T) T.length,.fs (strs W) W.length,.fs (zJ N) N.length,.fs (zJ E) E.length,.fs (nats .i64 cs) cs.length,.int .i64 f1]),(1,.cells [.ptr 0 0])] 6 f1 rfl rfl
   simp (disch:=first|assumption|(push_cast<;>omega)|omega) only [go_sem,q2]
   refine AXs.loop mixed (hΓ) (zd1) (fun i:Nat=>[(0,.ptr 0 0),(3,.fn 37 [.ptr 1 0]),(4,.fn 40 []),(7,.fp [.str [48],.nilS]),(10,.ptr 2 0),(11,.map 3),(32,.fs (nats .i64 cs) cs.length),(33,.int .i64 cs.length),(34,.int .i64 t),(13,.int .i64 c),(14,.map 4),(44,.int .i64 T.length),(45,.int .i64 j),(15,.int .i64 j),(16,.ptr 5 0),(51,.int .i64 ((T.length:Int)+1)),(52,.int .i64 i)])
    (fun i=>⟨[(5,.cells [.str (row1 stL plL M z48 bf j c f1 i).1.1,tgV (row1 stL plL M z48 bf j c f1 i).1.2]),(4,.mp (mpI 0 (rl.map tlV)) j),(3,.mp es ec),(2,.cells [.str [],.nilS]),(0,.cells [.fs (strs T) T.length,.fs (strs W) W.length,.fs (zJ N) N.length,.fs (zJ E) E.length,.fs (nats .i64 cs) cs.length,.int .i64 (row1 stL plL M z48 bf j c f1 i).2]),(1,.cells [.ptr 0 0])],6⟩) (fun i=>i≤T.length+1) (fun i=>T.length+1 - i) 0 (by kernel_rfl) (Nat.zero_le _) (Sub.of [] rfl ?_ ?_ (by decide) (fun b hb hw=>by rcases b with _|_|b<;>first|rfl|exact absurd (List.mem_singleton.2 rfl) hw|exact absurd hb (by simp))) ?_
   ·simp only [go_sem]
   ·simp only [go_sem]
    exact⟨⟨rfl,(show Rn _ _ V.nilS V.nilS from .same .nilS)⟩,zdR j (zcS 0 _ (zcN _)),zdR ec hpe,rfl⟩
   intro i h5
   simp (disch:=first|assumption|(push_cast<;>omega)|omega) only [go_sem]
   refine AXc.introP (fun h6=>?_) (fun h6=>?_)
   ·have hi:i<T.length+1:=by omega
    have erN:bf i=none→row1 stL plL M z48 bf j c f1 (i+1)=row1 stL plL M z48 bf j c f1 i:=fun h=>by rw [row1,h]
    have erS:∀ u,bf i=some u→row1 stL plL M z48 bf j c f1 (i+1)=one stL plL (row1 stL plL M z48 bf j c f1 i).2 (row1 stL plL M z48 bf j c f1 i).1 u [j] (nx M i j) (em M j c):=fun u h=>by rw [row1,h]
    have okv:okT (t+1) (row1 stL plL M z48 bf j c f1 i).1:=ziz (m:=M) hbo j c f1 i
    obtain⟨kk,hk⟩:=hfind i
    generalize row1 stL plL M z48 bf j c f1 i=vf at erN erS okv ⊢
    obtain⟨⟨w1,w2⟩,f⟩:=vf
    dsimp only at erN erS okv ⊢
    cases hb:bf i with
    |none=>
     have er1:=erN hb
     rw [hb]at hk
     dsimp only at hk
     simp (disch:=first|assumption|(push_cast<;>omega)|omega) only [go_sem,hk]
     refine zo (i+1) (by omega) (by omega) ?_
     rw [er1]
     refine Sub.of [] rfl ?_ ?_ (by decide) (fun b hb hw=>by rcases b with _|_|b<;>first|rfl|exact absurd (List.mem_singleton.2 rfl) hw|exact absurd hb (by simp))
     ·simp only [go_sem]
      simp
     ·simp only [go_sem]
      exact⟨zdR j (zcS 0 _ (zcN _)),zdR ec hpe⟩
    |some u=>
     have er1:=erS u hb
     rw [hb]at hk
     have oku:=hbo i u hb
     obtain⟨u1,u2⟩:=u
     have ou1:u1.length≤1000:=oku.1
     have ou2:u2.length≤t:=oku.2
     dsimp only at hk
     have hk':zct (.int .i64 i) es 0=some (some (kk,.agg [.str u1,tgV u2])):=hk
     have n1:=zft N i (by omega)
     have n2:=v2 i (by omega)
     have n3:=zft E j (by omega)
     have n4:=v4 j hj
     have l1:=(hl i j).1
     have l2:=(hl j c).2
     rw [hn]at l1 er1
     rw [he]at l2 er1
     generalize hA:(nthR N i).getD j []=A at l1 er1
     generalize hB:(nthR E j).getD c []=B at l2 er1
     rw [oneL_mk]at er1
     have t1:ΔF 36 [.ptr 0 0,.str A,.str B] ⟨[(6,.cells [.str u1,tgV u2]),(5,.cells [.str w1,tgV w2]),(4,.mp (mpI 0 (rl.map tlV)) j),(3,.mp es ec),(2,.cells [.str [],.nilS]),(0,.cells [.fs (strs T) T.length,.fs (strs W) W.length,.fs (zJ N) N.length,.fs (zJ E) E.length,.fs (nats .i64 cs) cs.length,.int .i64 f]),(1,.cells [.ptr 0 0])],7⟩=some ⟨True,.str (tm f A B).1,⟨[(6,.cells [.str u1,tgV u2]),(5,.cells [.str w1,tgV w2]),(4,.mp (mpI 0 (rl.map tlV)) j),(3,.mp es ec),(2,.cells [.str [],.nilS]),(0,.cells [.fs (strs T) T.length,.fs (strs W) W.length,.fs (zJ N) N.length,.fs (zJ E) E.length,.fs (nats .i64 cs) cs.length,.int .i64 (tm f A B).2]),(1,.cells [.ptr 0 0])],7⟩,[0],[0]⟩:=
      zsa 0 ⟨⟨T,W,N,E⟩,cs,f⟩ A B _ 7 l1 l2 rfl rfl
     have lx:=zsr f A B
     generalize tm f A B=x at t1 lx er1
     obtain⟨x1,x2⟩:=x
     dsimp only at t1 lx er1
     have t2:ΔF 37 [.agg [.str u1,tgV u2],.int .i64 (j:Nat),.str x1,.ptr 1 0] ⟨[(6,.cells [.str u1,tgV u2]),(5,.cells [.str w1,tgV w2]),(4,.mp (mpI 0 (rl.map tlV)) j),(3,.mp es ec),(2,.cells [.str [],.nilS]),(0,.cells [.fs (strs T) T.length,.fs (strs W) W.length,.fs (zJ N) N.length,.fs (zJ E) E.length,.fs (nats .i64 cs) cs.length,.int .i64 x2]),(1,.cells [.ptr 0 0])],7⟩=some ⟨True,tlV (stL x2 (u1,u2) [j] x1).1,⟨[(6,.cells [.str u1,tgV u2]),(5,.cells [.str w1,tgV w2]),(4,.mp (mpI 0 (rl.map tlV)) j),(3,.mp es ec),(2,.cells [.str [],.nilS]),(0,.cells [.fs (strs T) T.length,.fs (strs W) W.length,.fs (zJ N) N.length,.fs (zJ E) E.length,.fs (nats .i64 cs) cs.length,.int .i64 (stL x2 (u1,u2) [j] x1).2]),(1,.cells [.ptr 0 0])],7⟩,[0,1],[0]⟩:=
      znR (b:=0) (c:=1) (s:=⟨⟨T,W,N,E⟩,cs,x2⟩) (u:=(u1,u2)) (j:=[j]) (q:=x1) (n:=7) (by decide) rfl rfl rfl (.inr ⟨j,rfl⟩) (show u1.length≤1000000000 by omega) (by omega) (show u2.length≤1000000 by omega)
     have oky:=zir (f:=x2) (q:=x1) oku (j:=[j]) (by simp)
     generalize stL x2 (u1,u2) [j] x1=y at t2 oky er1
     obtain⟨⟨y1,y2⟩,y3⟩:=y
     dsimp only at t2 oky er1
     have ow1:w1.length≤1000:=okv.1
     have ow2:=okv.2
     have oy1:y1.length≤1000:=oky.1
     have oy2:=oky.2
     dsimp only at ow2 oy2
     have t3:=zoZ (w1,w2) (y1,y2) (show w1.length≤1000000000 by omega) (show y1.length≤1000000000 by omega) (show w2.length≤1000000 by omega) (show y2.length≤1000000 by omega)
     generalize betT (w1,w2) (y1,y2)=g at t3 er1
     obtain⟨g1,g2⟩:=g
     rw [zec]at t2
     rw [zec,zec,zec]at t3
     simp (disch:=first|assumption|(push_cast<;>omega)|omega) only [go_sem,hk',n1,n3,hA,hB,t1,t2,t3]
     refine⟨⟨by omega,by omega⟩,by omega,⟨by omega,by omega⟩,by omega,⟨by omega,by omega⟩,by omega,⟨by omega,by omega⟩,by omega,rfl,rfl,?_⟩
     refine AXk.intro (by kernel_rfl) ?_
     simp (disch:=first|assumption|(push_cast<;>omega)|omega) only [go_sem]
     refine zo (i+1) (by omega) (by omega) ?_
     rw [er1]
     refine Sub.of [] rfl ?_ ?_ (by decide) (fun b hb hw=>by rcases b with _|_|b<;>first|rfl|exact absurd (List.mem_singleton.2 rfl) hw|exact absurd hb (by simp))
     ·simp only [go_sem]
      simp
     ·simp only [go_sem]
      exact⟨zdR j (zcS 0 _ (zcN _)),zdR ec hpe⟩
   ·obtain rfl:i=T.length+1:=by omega
    have hnew:zct (.int .i64 j) (mpI 0 (rl.map tlV)) 0=some none:=by rw [zgv j 0 _ 0 (Nat.zero_le _),Nat.sub_zero,List.getElem?_eq_none (by rw [List.length_map];omega)]
    have happ:=zhE 0 (rl.map tlV) (tlV (row1 stL plL M z48 bf j c f1 (T.length+1)).1)
    rw [Nat.zero_add,List.length_map,erl]at happ
    generalize row1 stL plL M z48 bf j c f1 (T.length+1)=vf at happ er ⊢
    obtain⟨⟨w1,w2⟩,f⟩:=vf
    dsimp only at happ er ⊢
    have happ':mpI 0 (rl.map tlV)++[(j,.int .i64 (j:Nat),.agg [.str w1,tgV w2])]=mpI 0 ((rl++[(w1,w2)]).map tlV):=by rw [List.map_append];exact happ
    simp only [go_sem]
    refine AXa.go mixed (hΓ) (zd1) (by kernel_rfl) ?_
    simp (disch:=first|assumption|(push_cast<;>omega)|omega) only [go_sem,hnew,happ']
    refine zo (j+1) (by omega) (by omega) ?_
    rw [er]
    refine Sub.of [] rfl ?_ ?_ (by decide) (fun b hb hw=>by rcases b with _|_|b<;>first|rfl|exact absurd (List.mem_singleton.2 rfl) hw|exact absurd hb (by simp))
    ·simp only [go_sem]
     simp
    ·simp only [go_sem]
     exact⟨zdR (j+1) (zcS 0 _ (zcN _)),zdR ec hpe⟩
  ·obtain rfl:j=T.length:=by omega
   have erl:=ziy stL plL M z48 bf c f0 T.length
   simp only [go_sem]
   refine AXa.go mixed (hΓ) (zd1) (by kernel_rfl) ?_
   simp (disch:=first|assumption|(push_cast<;>omega)|omega) only [go_sem]
   refine zo (t+1) (by omega) (by omega) ?_
   rw [ef]
   generalize rowK stL plL M z48 bf c f0 T.length=rk at erl ⊢
   obtain⟨rl,f1⟩:=rk
   dsimp only at erl ⊢
   rw [zwI,zwK,List.length_map,erl]
   refine Sub.of [(3,4)] rfl ?_ ?_ (by decide) (fun b hb hw=>by rcases b with _|_|b<;>first|rfl|exact absurd (List.mem_singleton.2 rfl) hw|exact absurd hb (by simp))
   ·simp only [go_sem]
    simp
   ·simp only [go_sem]
    exact zdR T.length (zcS 0 _ (zcN _))
 ·obtain rfl:t=cs.length:=by omega
  have ef:finT stL plL M z48 o49 cs=fin1 stL plL M z48 (befT M o49 cs.length (fwL M cs cs.length).1) (fwL M cs cs.length).2 (M.tags.length+1):=rfl
  have hbo:∀ i u,befT M o49 cs.length (fwL M cs cs.length).1 i=some u→okT cs.length u:=zeC (m:=M) (t:=cs.length) (zes M cs cs.length)
  have hfind:=fun i=>zlM (m:=M) (t:=cs.length) (l:=(fwL M cs cs.length).1) (i:=i) o49 rfl
  have hpe:zxx (befE T.length cs.length (tlV o49) ((fwL M cs cs.length).1.map tlV)):=zgM (zaV _) (zcN _)
  rw [hMt]at ef hfind
  rw [ef]at hR
  clear ef
  generalize hes:befE T.length cs.length (tlV o49) ((fwL M cs cs.length).1.map tlV)=es at hfind hpe ⊢
  generalize hec:befC cs.length ((fwL M cs cs.length).1.map tlV)=ec
  generalize hbf:befT M o49 cs.length (fwL M cs cs.length).1=bf at hR hbo hfind
  generalize (fwL M cs cs.length).2=f0 at hR ⊢
  have q2:=qe [(4,.cells [.str [48],.nilS]),(3,.mp es ec),(2,.cells [.str [],.nilS]),(0,.cells [.fs (strs T) T.length,.fs (strs W) W.length,.fs (zJ N) N.length,.fs (zJ E) E.length,.fs (nats .i64 cs) cs.length,.int .i64 f0]),(1,.cells [.ptr 0 0])] 5 f0 rfl rfl
  simp only [go_sem]
  refine AXa.go mixed (hΓ) (zd1) (by kernel_rfl) ?_
  simp (disch:=first|assumption|(push_cast<;>omega)|omega) only [go_sem,q2]
  refine AXs.loop mixed (hΓ) (zd1) (fun i:Nat=>[(0,.ptr 0 0),(3,.fn 37 [.ptr 1 0]),(4,.fn 40 []),(10,.ptr 2 0),(11,.map 3),(20,.ptr 4 0),(103,.int .i64 ((T.length:Int)+1)),(104,.int .i64 i)])
   (fun i=>⟨[(4,.cells [.str (fin1 stL plL M z48 bf f0 i).1.1,tgV (fin1 stL plL M z48 bf f0 i).1.2]),(3,.mp es ec),(2,.cells [.str [],.nilS]),(0,.cells [.fs (strs T) T.length,.fs (strs W) W.length,.fs (zJ N) N.length,.fs (zJ E) E.length,.fs (nats .i64 cs) cs.length,.int .i64 (fin1 stL plL M z48 bf f0 i).2]),(1,.cells [.ptr 0 0])],5⟩) (fun i=>i≤T.length+1) (fun i=>T.length+1 - i) 0 (by kernel_rfl) (Nat.zero_le _) (Sub.of [] rfl ?_ ?_ (by decide) (fun b hb hw=>by rcases b with _|_|b<;>first|rfl|exact absurd (List.mem_singleton.2 rfl) hw|exact absurd hb (by simp))) ?_
  ·simp only [go_sem]
  ·simp only [go_sem]
   exact⟨⟨rfl,(show Rn _ _ V.nilS V.nilS from .same .nilS)⟩,zdR ec hpe,rfl⟩
  intro i h5
  simp (disch:=first|assumption|(push_cast<;>omega)|omega) only [go_sem]
  refine AXc.introP (fun h6=>?_) (fun h6=>?_)
  ·have hi:i<T.length+1:=by omega
   have erN:bf i=none→fin1 stL plL M z48 bf f0 (i+1)=fin1 stL plL M z48 bf f0 i:=fun h=>by rw [fin1,h]
   have erS:∀ u,bf i=some u→fin1 stL plL M z48 bf f0 (i+1)=one' stL plL (fin1 stL plL M z48 bf f0 i).2 (fin1 stL plL M z48 bf f0 i).1 u (nx M i T.length):=fun u h=>by rw [fin1,h,hMt]
   have okv:okT (cs.length+1) (fin1 stL plL M z48 bf f0 i).1:=zfy (m:=M) hbo f0 i
   obtain⟨kk,hk⟩:=hfind i
   generalize fin1 stL plL M z48 bf f0 i=vf at erN erS okv ⊢
   obtain⟨⟨w1,w2⟩,f⟩:=vf
   dsimp only at erN erS okv ⊢
   cases hb:bf i with
   |none=>
    have er1:=erN hb
    rw [hb]at hk
    dsimp only at hk
    simp (disch:=first|assumption|(push_cast<;>omega)|omega) only [go_sem,hk]
    refine zo (i+1) (by omega) (by omega) ?_
    rw [er1]
    refine Sub.of [] rfl ?_ ?_ (by decide) (fun b hb hw=>by rcases b with _|_|b<;>first|rfl|exact absurd (List.mem_singleton.2 rfl) hw|exact absurd hb (by simp))
    ·simp only [go_sem]
     simp
    ·simp only [go_sem]
     exact zdR ec hpe
   |some u=>
    have er1:=erS u hb
    rw [hb]at hk
    have oku:=hbo i u hb
    obtain⟨u1,u2⟩:=u
    have ou1:u1.length≤1000:=oku.1
    have ou2:u2.length≤cs.length:=oku.2
    dsimp only at hk
    have hk':zct (.int .i64 i) es 0=some (some (kk,.agg [.str u1,tgV u2])):=hk
    have n1:=zft N i (by omega)
    have n2:=v2 i (by omega)
    have l1:=(hl i T.length).1
    rw [hn]at l1 er1
    generalize hA:(nthR N i).getD T.length []=A at l1 er1
    rw [oneL'_mk]at er1
    have q3:=qe [(5,.cells [.str u1,tgV u2]),(4,.cells [.str w1,tgV w2]),(3,.mp es ec),(2,.cells [.str [],.nilS]),(0,.cells [.fs (strs T) T.length,.fs (strs W) W.length,.fs (zJ N) N.length,.fs (zJ E) E.length,.fs (nats .i64 cs) cs.length,.int .i64 f]),(1,.cells [.ptr 0 0])] 6 f rfl rfl
    have t2:ΔF 37 [.agg [.str u1,tgV u2],.int .i64 (-1),.str A,.ptr 1 0] ⟨[(5,.cells [.str u1,tgV u2]),(4,.cells [.str w1,tgV w2]),(3,.mp es ec),(2,.cells [.str [],.nilS]),(0,.cells [.fs (strs T) T.length,.fs (strs W) W.length,.fs (zJ N) N.length,.fs (zJ E) E.length,.fs (nats .i64 cs) cs.length,.int .i64 f]),(1,.cells [.ptr 0 0])],6⟩=some ⟨True,tlV (stL f (u1,u2) [] A).1,⟨[(5,.cells [.str u1,tgV u2]),(4,.cells [.str w1,tgV w2]),(3,.mp es ec),(2,.cells [.str [],.nilS]),(0,.cells [.fs (strs T) T.length,.fs (strs W) W.length,.fs (zJ N) N.length,.fs (zJ E) E.length,.fs (nats .i64 cs) cs.length,.int .i64 (stL f (u1,u2) [] A).2]),(1,.cells [.ptr 0 0])],6⟩,[0,1],[0]⟩:=
     znR (b:=0) (c:=1) (s:=⟨⟨T,W,N,E⟩,cs,f⟩) (u:=(u1,u2)) (j:=[]) (q:=A) (n:=6) (by decide) rfl rfl rfl (.inl rfl) (show u1.length≤1000000000 by omega) (by omega) (show u2.length≤1000000 by omega)
    have oky:=zir (f:=f) (q:=A) oku (j:=[]) (by simp)
    generalize stL f (u1,u2) [] A=y at t2 oky er1
    obtain⟨⟨y1,y2⟩,y3⟩:=y
    dsimp only at t2 oky er1
    have ow1:w1.length≤1000:=okv.1
    have ow2:=okv.2
    have oy1:y1.length≤1000:=oky.1
    have oy2:=oky.2
    dsimp only at ow2 oy2
    have t3:=zoZ (w1,w2) (y1,y2) (show w1.length≤1000000000 by omega) (show y1.length≤1000000000 by omega) (show w2.length≤1000000 by omega) (show y2.length≤1000000 by omega)
    generalize betT (w1,w2) (y1,y2)=g at t3 er1
    obtain⟨g1,g2⟩:=g
    rw [zec]at t2
    rw [zec,zec,zec]at t3
    simp (disch:=first|assumption|(push_cast<;>omega)|omega) only [go_sem,hk',n1,hA,q3,t2,t3]
    (repeat refine sdC ?_)
    simp (disch:=first|assumption|(push_cast<;>omega)|omega) only [go_sem]
    refine zo (i+1) (by omega) (by omega) ?_
    rw [er1]
    refine Sub.of [] rfl ?_ ?_ (by decide) (fun b hb hw=>by rcases b with _|_|b<;>first|rfl|exact absurd (List.mem_singleton.2 rfl) hw|exact absurd hb (by simp))
    ·simp only [go_sem]
     simp
    ·simp only [go_sem]
     exact zdR ec hpe
  ·obtain rfl:i=T.length+1:=by omega
   rw [←hR]
   obtain⟨⟨r1,r2⟩,r3⟩:=R
   dsimp only
   simp only [go_sem]
   refine AXa.go mixed (hΓ) (zd1) (by kernel_rfl) ?_
   simp (disch:=first|assumption|(push_cast<;>omega)|omega) only [go_sem]
   refine⟨[(10,.ptr 2 0)],Sub.of [] rfl ?_ ?_ (by decide) (fun b hb hw=>by rcases b with _|_|b<;>first|rfl|exact absurd (List.mem_singleton.2 rfl) hw|exact absurd hb (by simp)),?_⟩
   ·simp only [go_sem]
   ·simp only [go_sem]
   ·simp only [go_sem]
    rfl
end Go.Proofs
