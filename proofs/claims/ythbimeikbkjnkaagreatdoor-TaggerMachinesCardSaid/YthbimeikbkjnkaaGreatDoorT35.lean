/- The program's Machine, walked. -/
import Derived.Test.YthbimeikbkjnkaaGreatDoorAbFrzN
set_option linter.all false
set_option maxHeartbeats 16000000
set_option maxRecDepth 100000
namespace Go.Proofs
open Tryz Go.Ab Go.Cnt Go.Pl Go.Tg
theorem zs4(m:Mdl)(ws:List Str)(bs:List (Nat×Blk))(n:Nat)(hf:Fit m)(hw:ws.length≤1000000)(hk:((keysB bs).all fun b=>decide (b<n))=true):conD zCg [mdlV m,.fs (strs ws) ws.length] ⟨bs,n⟩=
 some (if (vmB m&&zb1 ws)=true then⟨True,.tup [.ptr n 0,.int .i64 0],⟨(n,.cells (runC ⟨m,zH m ws,0⟩))::bs,n+1⟩,[],[]⟩else⟨True,.tup [.nilP,.int .i64 1],⟨bs,n⟩,[],[]⟩):=by
 refine zaK ⟨m,ws,rfl,hf,hw,zbB hk,rfl⟩ fun r' ⟨m',ws',e,_,_,_,e'⟩=>?_
 simp only [Yu,V.fs.injEq,Yam]at e
 rw [e', ←zeG e.1, ←zam e.2.1]
theorem zpR {H:Hp}:Frz H (.agg [.int .i64 0,.int .i64 0,.str [],.nilS]) (zah noM):=by
 refine .agg rfl fun i x y hx hy=>?_;match i with
 |0=>cases hx;cases hy;exact .pure (.int _ _)
 |1=>cases hx;cases hy;exact .pure (.int _ _)
 |2=>cases hx;cases hy;exact .pure (.str _)
 |3=>cases hx;cases hy;exact .nil0
 |i+4=>simp at hx
theorem zerosSt:zcT (some (Value.agg #[Value.string { data:=#[] },Value.slice none 0 0])) 1=stns [⟨[],[]⟩]:=rfl
theorem fzB_set {H:Hp}{F:Nat→Prop}{n:Nat}{cs:List V}{k:Nat}{u v:V}(hp:∀ x∈cs,Pure x)(h:FrzF H F u v):FzB H F n (.cells (cs.set k v)) (.cells (cs.set k u)):=by
 refine .inr ⟨_,_,rfl,rfl,by simp,fun i a b ha hb=>?_⟩;rw [Ybn]at ha hb;by_cases hk:k=i
 ·rw [Yf hk]at ha hb;split at ha
  ·rename_i hl;rw [Yf hl]at hb;cases ha;cases hb;exact .inr h
  ·cases ha
 ·rw [Yd hk]at ha hb;rw [ha]at hb;cases hb;exact .inl (.same (hp _ (YR ha)))
theorem zg3 {π:Nat→Nat}{N:Nat→Prop}{cs:List V}{k:Nat}{u v:V}(hp:∀ x∈cs,Pure x)(h:Rn π N u v):LRel (Rn π N) (cs.set k u) (cs.set k v):=by
 refine⟨by simp,fun i a b ha hb=>?_⟩;rw [Ybn]at ha hb;by_cases hk:k=i
 ·rw [Yf hk]at ha hb;split at ha
  ·rename_i hl;rw [Yf hl]at hb;cases ha;cases hb;exact h
  ·cases ha
 ·rw [Yd hk]at ha hb;rw [ha]at hb;cases hb;exact .same (hp _ (YR ha))
theorem aCell_rn {N:Nat→Prop}{n:Nat}(h:N 2):LRel (Rn id N) [.int .i64 3,.int .i64 0,.str [49],.sl 2 0 n 2 none] [.int .i64 3,.int .i64 0,.str [49],.sl 2 0 n 2 none]:=by
 refine⟨rfl,fun i x y hx hy=>?_⟩;match i with
 |0=>cases hx;cases hy;exact .same (.int _ _)
 |1=>cases hx;cases hy;exact .same (.int _ _)
 |2=>cases hx;cases hy;exact .same (.str _)
 |3=>cases hx;cases hy;exact .sl (π:=id) (b:=2) h (.inl rfl)
 |i+4=>simp at hx
theorem zzn {m:Mdl}{T:Nat}{q:List Sta}{d:Nat→Bool}(h:∀ k,d k=false):finQ m T q d=q:=by
 unfold finQ;apply YaU;intro i;rw [Yca];cases q[i]? with
 |none=>rfl
 |some x=>simp [h]
theorem zuW {m:Mdl}{T:Nat}{q:List Sta}{d d':Nat→Bool}(h:∀ k,d k=d' k):finQ m T q d=finQ m T q d':=by rw [show d=d' from funext h]
theorem znr {m:Mdl}{T:Nat}{q:List Sta}{d d':Nat→Bool}{k:Nat}(hk:lastB m.tags.length T+k<q.length)(hd:∀ j,d' j=(d j||decide (j=k)))(hdk:d k=false):
 finQ m T q d'=(finQ m T q d).set (lastB m.tags.length T+k) ⟨endT m T k,(nthQ q (lastB m.tags.length T+k)).a⟩:=by
 apply YaU
 intro i
 rw [Ybn]
 unfold finQ
 rw [Yca,Yca,List.length_mapIdx]
 by_cases hi:lastB m.tags.length T+k=i
 ·subst hi
  rw [Yf rfl,Yf hk,Yb hk]
  have e:lastB m.tags.length T+k - lastB m.tags.length T=k:=by omega
  have e1:(decide (lastB m.tags.length T≤lastB m.tags.length T+k)&&d' k)=true:=by rw [hd k,hdk];simp
  have e2:nthQ q (lastB m.tags.length T+k)=q[lastB m.tags.length T+k]:=by rw [zc9,Ya,Yb hk];rfl
  rw [Yao,e,Yf e1,e2]
 ·rw [Yd hi]
  cases q[i]? with
  |none=>rfl
  |some x=>
   rw [Yao,Yao]
   by_cases hb:lastB m.tags.length T≤i
   ·have hn:decide (i - lastB m.tags.length T=k)=false:=Yy (by omega)
    rw [hd,hn,YcA]
   ·rw [Yy hb,Y7,Y7]
theorem zzo {m:Mdl}{T:Nat}{q:List Sta}{d:Nat→Bool}{k:Nat}(hk:lastB m.tags.length T+k<q.length)(hdk:d k=false):nthQ (finQ m T q d) (lastB m.tags.length T+k)=nthQ q (lastB m.tags.length T+k):=by rw [zpU hk,show lastB m.tags.length T+k - lastB m.tags.length T=k by omega,hdk,YaQ,Yd (by simp)]
theorem zzm {m:Mdl}{T:Nat}{q:List Sta}{d d':Nat→Bool}{k:Nat}(hk:lastB m.tags.length T+k<q.length)(hd:∀ j,d' j=(d j||decide (j=k)))(hdk:d k=false)(he:endT m T k=[])(hf:∀ x∈q,x.f=[]):finQ m T q d'=finQ m T q d:=by
 have hq:=hf _ (nthQ_mem hk);have ha:=zzo (m:=m) (T:=T) (d:=d) hk hdk;have hl:lastB m.tags.length T+k<(finQ m T q d).length:=by rw [zdF];exact hk
 rw [znr hk hd hdk,he];have e:(⟨[],(nthQ q (lastB m.tags.length T+k)).a⟩:Sta)=nthQ (finQ m T q d) (lastB m.tags.length T+k):=by rw [ha];generalize nthQ q (lastB m.tags.length T+k)=x at hq ⊢;obtain⟨xf,xa⟩:=x;dsimp only at hq ⊢;rw [hq]
 rw [e];have e2:nthQ (finQ m T q d) (lastB m.tags.length T+k)=(finQ m T q d)[lastB m.tags.length T+k]:=by rw [zc9,Ya,Yb hl];rfl
 rw [e2];exact List.set_getElem_self hl
def dn(E:Nat)(left:List Nat)(k:Nat):Bool:=decide (k<E)&& !left.contains k
theorem dn_all(E k:Nat):dn E (List.range E) k=false:=by
 unfold dn;by_cases h:k<E
 ·rw [show (List.range E).contains k=true by simpa using h];simp
 ·rw [Yy h];rfl
theorem dn_nil(E k:Nat):dn E [] k=decide (k<E):=by simp [dn]
theorem dn_step {E k:Nat}{left:List Nat}(hk:k<E)(j:Nat):dn E (left.filter fun n=> !Nat.beq n k) j=(dn E left j||decide (j=k)):=by
 unfold dn;by_cases hj:j=k
 ·subst hj;have:(left.filter fun n=> !Nat.beq n j).contains j=false:=by simp
  rw [this,YB hk,YB (rfl:j=j)];simp
 ·have:(left.filter fun n=> !Nat.beq n k).contains j=left.contains j:=by
   rw [YaJ,Yba,Yba,Yaq]
   constructor
   ·exact fun h=>h.1
   ·intro h;refine⟨h,?_⟩;cases e:Nat.beq j k with
    |true=>exact absurd (Yad e) hj
    |false=>rfl
  rw [this,Yy hj,YcA]
theorem left_lt {left:List Nat}{k:Nat}(h:left.contains k=true):(left.filter fun n=> !Nat.beq n k).length<left.length:=by rw [List.length_filter_lt_length_iff_exists];exact⟨k,by simpa using h,by simp⟩
theorem last_in {n t q:Nat}(hq:q=1+t*n){k:Nat}(hk:k<zaF n t):lastB n t+k<q:=by
 unfold zaF at hk;unfold lastB;by_cases h:t=0
 ·rw [Yf h]at hk ⊢;omega
 ·rw [Yd h]at hk ⊢;have e:t*n=(t - 1)*n+n:=by rw [←Ya4];congr 1;omega
  omega
def newV(b j:Nat):List V:=(List.range j).map fun k=>.int .i64 (b+k:Nat)
theorem zrh(b j:Nat):(newV b j).length=j:=by simp [newV]
theorem zx8(b j:Nat):newV b (j+1)=newV b j++[.int .i64 (b+j:Nat)]:=by unfold newV;rw [List.range_succ,Yau];rfl
theorem zmS(b j:Nat):∀ x∈newV b j,Pure x:=fun x h=>by obtain⟨j,_,rfl⟩:=Yab.1 h;exact .int _ _
theorem newV_at {b j n:Nat}(h:j<n):zcp (.int .i64 j) (mpI 0 (newV b n)) 0=some (some (j,.int .i64 (b+j:Nat))):=by rw [zfI j 0 _ 0 (Yk _),Ybo];unfold newV;rw [YX,YbQ h,Yal];rfl
theorem zx9(b j:Nat):zcp (.int .i64 j) (mpI 0 (newV b j)) 0=some none:=by rw [zfI j 0 _ 0 (Yk _),Ybo,Ys (by rw [zrh];omega)]
theorem newV_app(b j:Nat):mpI 0 (newV b j)++[(j,.int .i64 (j:Nat),.int .i64 (b+j:Nat))]=mpI 0 (newV b (j+1)):=by have:=zjB 0 (newV b j) (.int .i64 (b+j:Nat));rw [Yal,zrh]at this;rw [zx8, ←this]
theorem zyN(n t:Nat):zbA n (t+1)=mpI 0 (newV (1+t*n) n):=by unfold zbA befE zld newV lastB;rw [Yd (Ycz t),Yd (Ycz t),Ybf]
theorem zum(n t:Nat):zaF n (t+1)=n:=by unfold zaF;rw [Yd (Ycz t)]
theorem rep_snoc(q:List Sta)(j:Nat):(q++List.replicate j ⟨[],[]⟩)++[⟨[],[]⟩]=q++List.replicate (j+1) ⟨[],[]⟩:=by rw [Ybl, ←List.replicate_succ']
theorem ztV(m:Mdl)(ws:List Str)(hf:Fit m)(hw:ws.length≤1000)(hl:∀ i j,(nx m i j).length≤1000000000∧(em m i j).length≤1000000000):
 PCall prog 22 [mdlV m,.fs (strs ws) ws.length] (.ret (.tup [zah (zfA m ws).1,.int .i64 (zfA m ws).2])):=by
 have hΓ:=zf cSOne_ok zh
 have p1:ΔR 33 [mdlV m,.fs (strs ws) ws.length] ⟨[(0,.cells [.int .i64 0,.int .i64 0,.str [],.nilS])],1⟩=_:=zs4 m ws _ 1 hf (by omega) rfl
 obtain⟨R,hR⟩:∃ R,R=zfA m ws:=⟨_,rfl⟩
 rw [←hR]
 unfold zfA at hR
 have hcl:(zH m ws).length=ws.length:=by simp [zH]
 have hcc:∀ i,i<(zH m ws).length→(zH m ws).getD i 0≤m.words.length:=fun i hi=>by rw [zim m ws i (by omega)];exact zia _ _
 refine PCall.walk (rs:=[.cell 4 42,.tmp 5]) [0,1,2,4,5,6,7,8,9,11,12,13,14,15,16,17,18,19,20,21,29,40,52,53,54,55,59,60,61,76,77,78,91,113,142,144,158,173] [25] mixed (hΓ) (zcS) call22 func22 rfl ntmps22 rfl (by kernel_rfl) (by simp) (by simp [push_cast,zcY]) ?_
 cases hb:(vmB m&&zb1 ws)with
 |false=>
  rw [hb,Yd (by simp)]at p1
  rw [Yf hb]at hR
  rw [hR]
  clear hcc hcl hR
  obtain⟨T,W,N,E⟩:=m
  unfold mdlV at p1 ⊢
  dsimp only at p1 ⊢
  simp (disch:=first|exact Zq|fail) only [go_sem,p1]
  exact zpR
 |true=>
  have hv:vmB m=true:=by simp only [Yc]at hb;exact hb.1
  rw [hb,Yf rfl]at p1
  rw [Yd (by rw [hb];simp)]at hR
  obtain⟨v1,v2,v3,v4,v5,v6⟩:=zqT hv
  have hT40:m.tags.length≤40:=by unfold vmB at hv;simp only [Yc,Yh]at hv;exact hv.1
  have htl:=hf.tl
  have hn:∀ i j,nx m i j=(nthR m.next i).getD j []:=fun i j=>rfl
  have he:∀ i j,em m i j=(nthR m.emit i).getD j []:=fun i j=>rfl
  rw [←hcl]at hR
  have hcl':=hcl
  generalize zH m ws=cs at*
  obtain⟨M,hM⟩:∃ M,M=m:=⟨_,rfl⟩
  rw [←hM]at hR hn he hl
  have hnl:M.tags.length=m.tags.length:=by rw [hM]
  obtain⟨T,W,N,E⟩:=m
  unfold mdlV runC at p1
  unfold mdlV
  dsimp only at v1 v2 v3 v4 htl p1 hnl hcc hT40 ⊢
  have hMn:M.next=N:=by rw [hM]
  have hMe:M.emit=E:=by rw [hM]
  rw [hMn]at hn
  rw [hMe]at he
  rw [hnl]at hR
  clear hM
  obtain⟨pq,hpq,hpl⟩:∃ p:Nat,(T.length:Int)*(ws.length:Int)=p∧T.length*cs.length=p:=⟨T.length*ws.length,by push_cast;rfl,by rw [hcl']⟩
  have hpb:pq≤40000:=by rw [←hpl];exact Yak hT40 (show cs.length≤1000 by omega)
  rw [hpl]at hR
  simp (disch:=first|exact Zq|fail) only [go_sem,p1]
  rw [hpq]
  refine AXc.introP (fun g1=>?_) (fun g1=>?_)
  ·rw [Yf (by omega)]at hR
   rw [hR]
   simp (disch:=first|exact Zq|fail) only [go_sem]
   exact zpR
  rw [Yd (by omega)]at hR
  have qe:∀(bs:List (Nat×Blk)) (n:Nat) (f:Int),zas bs 1=some (.cells [.fs (strs T) T.length,.fs (strs W) W.length,.fs (zI N) N.length,.fs (zI E) E.length,.fs (nats .i64 cs) cs.length,.int .i64 f])→((keysB bs).all fun b=>decide (b<n))=true→ΔR 34 [.ptr 1 0] ⟨bs,n⟩=some ⟨True,.int .i64 T.length,⟨bs,n⟩,[1],[]⟩:=fun bs n f h k=>ΔR_ends 1 ⟨⟨T,W,N,E⟩,cs,f⟩ bs n (by dsimp only;omega) h k
  simp (disch:=first|exact Zq|fail) only [go_sem,zerosSt]
  refine AXk.intro (by kernel_rfl) ?_
  have q0:=qe [(3,.mp [] 0),(2,.cells (stns [⟨[],[]⟩])),(1,.cells [.fs (strs T) T.length,.fs (strs W) W.length,.fs (zI N) N.length,.fs (zI E) E.length,.fs (nats .i64 cs) cs.length,.int .i64 0]),(0,.cells [.int .i64 3,.int .i64 0,.str [49],.sl 2 0 1 2 (some 1)])] 4 0 rfl rfl
  simp (disch:=first|exact Zq|fail) only [go_sem,q0,zuU,YbK]
  have hlen:=zbn M cs
  rw [hnl]at hlen
  have hcnt:=wrdM_c M cs
  rw [hnl]at hcnt
  have hfree:=zwm M cs
  rw [hnl]at hfree
  refine AXs.loop mixed (hΓ) (zcS) (fun t:Nat=>[(2,.fp [.fs (strs T) T.length,.fs (strs W) W.length,.fs (zI N) N.length,.fs (zI E) E.length]),(4,.ptr 0 0),(6,.ptr 1 0),(7,.int .i64 T.length),(8,.map 3),(9,.int .i64 (wrdM M cs t).c),(52,.fs (nats .i64 cs) cs.length),(53,.int .i64 cs.length),(54,.int .i64 t)])
   (fun t=>⟨[(3,.mp (zbA T.length t) (zaF T.length t)),(2,.cells (stns (wrdM M cs t).q)),(1,.cells [.fs (strs T) T.length,.fs (strs W) W.length,.fs (zI N) N.length,.fs (zI E) E.length,.fs (nats .i64 cs) cs.length,.int .i64 (wrdM M cs t).f]),(0,.cells [.int .i64 3,.int .i64 0,.str [49],.sl 2 0 (wrdM M cs t).q.length 2 none])],4⟩) (fun t=>t≤cs.length) (fun t=>cs.length - t) 0 (by kernel_rfl) (Yk _) (Sub.of0 [(0,0),(1,1),(2,2),(3,3)] rfl rfl ?_ ?_) ?_
  ·simp only [go_sem,wrdM]
  ·simp only [go_sem,wrdM]
   exact zbU 1 (zge T.length 0)
  intro t h1
  have hqt:=hlen t
  have hct:=hcnt t
  have hbt:t*T.length≤40000:=Yn (YH _ h1) (by rw [Yay,hpl];exact hpb)
  simp (disch:=first|exact Zq|fail) only [go_sem]
  refine AXc.introP (fun h2=>?_) (fun h2=>?_)
  rotate_left
  ·obtain rfl:t=cs.length:=by omega
   simp only [go_sem]
   refine AXa.go mixed (hΓ) (zcS) (by kernel_rfl) ?_
   simp (disch:=first|exact Zq|fail) only [go_sem]
   have hff:=zwn M cs cs.length
   have hEq:zaF M.tags.length cs.length=zaF T.length cs.length:=by rw [hnl]
   have hBq:lastB M.tags.length cs.length=lastB T.length cs.length:=by rw [hnl]
   have hend:∀ k,endT M cs.length k=if nx M (ze4 T.length cs.length k) T.length=[48]then []else nx M (ze4 T.length cs.length k) T.length:=fun k=>by unfold endT;rw [hnl]
   have hqe:(tgM M cs).q=finQ M cs.length (wrdM M cs cs.length).q fun k=>decide (k<zaF T.length cs.length):=by rw [zoG,hEq]
   have htM:tgM M cs=⟨3,0,[49],(tgM M cs).q⟩:=rfl
   have hsq:=hlen cs.length
   generalize wrdM M cs cs.length=S at*
   obtain⟨q,f,c0⟩:=S
   dsimp only at hff hqe hsq hR ⊢
   have hfs:∀ {d d':Nat→Bool} {k:Nat},lastB T.length cs.length+k<q.length→(∀ j,d' j=(d j||decide (j=k)))→d k=false→finQ M cs.length q d'=(finQ M cs.length q d).set (lastB T.length cs.length+k) ⟨endT M cs.length k,(nthQ q (lastB T.length cs.length+k)).a⟩∧nthQ (finQ M cs.length q d) (lastB T.length cs.length+k)=nthQ q (lastB T.length cs.length+k)∧(endT M cs.length k=[]→finQ M cs.length q d'=finQ M cs.length q d):=fun h1 h2 h3=>by rw [←hBq]at h1 ⊢;exact⟨znr h1 h2 h3,zzo h1 h3,fun h4=>zzm h1 h2 h3 h4 hff⟩
   have hfl:∀ d,(finQ M cs.length q d).length=q.length:=fun d=>zdF _ _ _ _
   have hf0:finQ M cs.length q (dn (zaF T.length cs.length) (List.range (zaF T.length cs.length)))=q:=zzn (dn_all _)
   have hf1:finQ M cs.length q (dn (zaF T.length cs.length) [])=(tgM M cs).q:=by rw [hqe];exact zuW (dn_nil _)
   generalize finQ M cs.length q=FQ at hfs hfl hf0 hf1
   rw [ze3]
   have hlE:=zge T.length cs.length
   refine AXs.loop mixed (hΓ) (zcS) (fun p:List Nat×Option Nat=>[(2,.fp [.fs (strs T) T.length,.fs (strs W) W.length,.fs (zI N) N.length,.fs (zI E) E.length]),(4,.ptr 0 0),(6,.ptr 1 0),(9,.int .i64 c0),(142,.ptr 4 0)])
    (fun p=>⟨[(4,.it (some 3) (List.range (zaF T.length cs.length)) p.1 (zaF T.length cs.length) (zaF T.length cs.length) p.2),(3,.mp (zbA T.length cs.length) (zaF T.length cs.length)),(2,.cells (stns (FQ (dn (zaF T.length cs.length) p.1)))),(1,.cells [.fs (strs T) T.length,.fs (strs W) W.length,.fs (zI N) N.length,.fs (zI E) E.length,.fs (nats .i64 cs) cs.length,.int .i64 f]),(0,.cells [.int .i64 3,.int .i64 0,.str [49],.sl 2 0 q.length 2 none])],5⟩) (fun p=>∀ x∈p.1,x<zaF T.length cs.length) (fun p=>p.1.length) (List.range (zaF T.length cs.length),none) (by kernel_rfl) (fun x hx=>by simpa using hx) (Sub.of0 [(0,0),(1,1),(2,2),(3,3),(4,4)] rfl rfl ?_ ?_) ?_
   ·simp only [go_sem]
   ·simp only [go_sem,hf0]
    exact zbU _ hlE
   rintro⟨left,cur⟩ hp
   dsimp only at hp ⊢
   simp only [go_sem]
   refine AXw.intro rfl rfl (ze3 _ _) (Ye _) (fun x hx=>by simpa using hx) (Yk _) (fun x0=>?_) (fun e x1 x2=>?_)
   ·have hnil:left=[]:=by
     cases left with
     |nil=>rfl
     |cons x r=>
      have hx:=hp x (by simp);have hm:x∈(zbA T.length cs.length).map (·.1):=by rw [ze3];simpa using hx
      obtain⟨e,he,hex⟩:=Yab.1 hm;have:=x0 e he;rw [hex]at this;simp at this
    rw [hnil,hf1]
    simp only [go_sem]
    refine AXa.go mixed (hΓ) (zcS) (by kernel_rfl) ?_
    simp (disch:=first|exact Zq|fail) only [go_sem]
    by_cases hx:f≠0∨30000<c0
    ·have ex:(!decide (f=0)||decide (30000<(c0:Int)))=true:=by
      rcases hx with h|h
      ·rw [Yy h];rfl
      ·rw [YB (by omega:30000<(c0:Int)),YcI]
     rw [Yf hx]at hR
     rw [hR,ex]
     simp (disch:=first|exact Zq|fail) only [go_sem]
     exact zpR
    ·have hx':f=0∧¬30000<c0:=⟨Yb8.1 fun h=>hx (.inl h),fun h=>hx (.inr h)⟩
     have ex:(!decide (f=0)||decide (30000<(c0:Int)))=false:=by rw [YB hx'.1,Yy (by omega:¬30000<(c0:Int))];rfl
     rw [Yd hx]at hR
     rw [hR,ex]
     have hql:q.length=(tgM M cs).q.length:=by rw [←hf1,hfl]
     simp (disch:=first|exact Zq|fail) only [go_sem]
     rw [htM]
     refine .agg rfl fun i x y hx hy=>?_
     match i with
     |0=>cases hx;cases hy;exact .pure (.int _ _)
     |1=>cases hx;cases hy;exact .pure (.int _ _)
     |2=>cases hx;cases hy;exact .pure (.str _)
     |3=>
      cases hx;cases hy
      rw [←hql]
      exact frz_stns _ hql rfl
     |i+4=>simp at hx
   ·obtain⟨k,hk,rfl⟩:=last_mem x1
    dsimp only at x2
    have hbn:=zyP hk
    have hin:=last_in hsq hk
    obtain⟨i1,i2,i3⟩:=hfs (d:=dn (zaF T.length cs.length) left) hin (dn_step hk) (by unfold dn;rw [x2];simp)
    have hlk:=left_lt x2
    have hgl:=zle hk
    have hek:=hend k
    have q1:=qe [(4,.it (some 3) (List.range (zaF T.length cs.length)) (left.filter fun n=> !Nat.beq n k) (zaF T.length cs.length) (zaF T.length cs.length) (some k)),(3,.mp (zbA T.length cs.length) (zaF T.length cs.length)),(2,.cells (stns (FQ (dn (zaF T.length cs.length) left)))),(1,.cells [.fs (strs T) T.length,.fs (strs W) W.length,.fs (zI N) N.length,.fs (zI E) E.length,.fs (nats .i64 cs) cs.length,.int .i64 f]),(0,.cells [.int .i64 3,.int .i64 0,.str [49],.sl 2 0 q.length 2 none])] 5 f rfl rfl
    have n1:=zcV N (ze4 T.length cs.length k) (by omega)
    have n2:=v2 (ze4 T.length cs.length k) hgl
    rw [hn]at hek
    have hfl1:=hfl (dn (zaF T.length cs.length) left)
    have hp':∀ x∈left.filter (fun n=> !Nat.beq n k),x<zaF T.length cs.length:=fun x hx=>hp x (Yaq.1 hx).1
    generalize hP:(nthR N (ze4 T.length cs.length k)).getD T.length []=P at hek
    simp (disch:=first|exact Zq|fail) only [go_sem,hbn,n1,q1,hP]
    refine⟨by omega,by omega,by omega,by omega,AXk.intro (by kernel_rfl) ?_⟩
    simp (disch:=first|exact Zq|fail) only [go_sem]
    refine AXc.introN (fun y3=>?_) (fun y3=>?_)
    ·rw [Yd y3]at hek
     rw [hek]at i1
     have hs0:=zme (FQ (dn (zaF T.length cs.length) left)) (lastB T.length cs.length+k) P (by rw [hfl1];exact hin)
     rw [i2, ←i1]at hs0
     simp (disch:=first|exact Zq|fail) only [go_sem,hs0]
     refine⟨by omega,by omega,?_⟩
     refine zi (left.filter (fun n=> !Nat.beq n k),some k) hp' hlk (Sub.of0 [(0,0),(1,1),(2,2),(3,3),(4,4)] rfl rfl ?_ ?_)
     ·simp only [go_sem]
     ·simp only [go_sem]
      exact zbU _ hlE
    ·rw [Yf y3]at hek
     have i4:=i3 hek
     simp (disch:=first|exact Zq|fail) only [go_sem]
     refine zi (left.filter (fun n=> !Nat.beq n k),some k) hp' hlk ?_
     dsimp only
     rw [i4]
     refine Sub.of0 [(0,0),(1,1),(2,2),(3,3),(4,4)] rfl rfl ?_ ?_
     ·simp only [go_sem]
     ·simp only [go_sem]
      exact zbU _ hlE
  have ht:t<cs.length:=by omega
  have hcc':=hcc t ht
  generalize hcq:cs.getD t 0=c at hcc'
  have hS1:wrdM M cs (t+1)=rowM M c (wrdM M cs t).q.length t (newM T.length (wrdM M cs t)) (T.length+1):=by rw [wrdM,hnl,hcq]
  have hfr:=hfree t
  have hlE:=zge T.length t
  generalize wrdM M cs t=s at hS1 hfr hqt hct
  obtain⟨q,f0,c0⟩:=s
  dsimp only at hS1 hfr hqt hct ⊢
  have hct':c0≤1000000000:=by refine Yn hct (Yn (Yak (show t≤1000 by omega) (Yak (show T.length+1≤41 by omega) hT40)) (by decide))
  simp (disch:=first|exact Zq|fail) only [go_sem,hcq]
  try (repeat refine sdC ?_)
  refine AXs.loop mixed (hΓ) (zcS) (fun j:Nat=>[(2,.fp [.fs (strs T) T.length,.fs (strs W) W.length,.fs (zI N) N.length,.fs (zI E) E.length]),(4,.ptr 0 0),(6,.ptr 1 0),(7,.int .i64 T.length),(8,.map 3),(9,.int .i64 c0),(52,.fs (nats .i64 cs) cs.length),(53,.int .i64 cs.length),(54,.int .i64 t),(11,.int .i64 c),(12,.map 4),(59,.int .i64 T.length),(60,.int .i64 j)])
   (fun j=>⟨[(4,.mp (mpI 0 (newV q.length j)) j),(3,.mp (zbA T.length t) (zaF T.length t)),(2,.cells (stns (q++List.replicate j ⟨[],[]⟩))),(1,.cells [.fs (strs T) T.length,.fs (strs W) W.length,.fs (zI N) N.length,.fs (zI E) E.length,.fs (nats .i64 cs) cs.length,.int .i64 f0]),(0,.cells [.int .i64 3,.int .i64 0,.str [49],.sl 2 0 (q.length+j) 2 none])],5⟩) (fun j=>j≤T.length) (fun j=>T.length - j) 0 (by kernel_rfl) (Yk _) (Sub.of0 [(0,0),(1,1),(2,2),(3,3),(4,4)] rfl rfl ?_ ?_) ?_
  ·simp only [go_sem]
  ·simp only [go_sem,List.replicate_zero,Ybt]
   exact⟨zbU 0 (fun e h=>by cases h),zbU _ hlE⟩
  intro j k1
  simp (disch:=first|exact Zq|fail) only [go_sem]
  refine AXc.introP (fun k2=>?_) (fun k2=>?_)
  ·have hj:j<T.length:=by omega
   have tk:List.take ((q.length+j)*2) (stns (q++List.replicate j ⟨[],[]⟩))=stns (q++List.replicate j ⟨[],[]⟩):=Yj (by rw [zct,Yi,Yw];exact Ye _)
   have n1:=zx9 q.length j
   have n2:=newV_app q.length j
   have sa:stns (q++List.replicate j ⟨[],[]⟩)++[.str [],.nilS]=stns (q++List.replicate (j+1) ⟨[],[]⟩):=by rw [←stns_one, ←stns_app,rep_snoc]
   simp (disch:=first|exact Zq|fail) only [go_sem,n1,n2,tk,sa,Yi,Yw]
   refine⟨by omega,?_⟩
   refine zi (j+1) (by omega) (by omega) (Sub.of0 [(0,0),(1,1),(2,6),(3,3),(4,4)] rfl rfl ?_ ?_)
   ·simp only [go_sem]
    simp
   ·simp only [go_sem]
    exact⟨zbU (j+1) (zg2 0 _ (zmS _ _)),zbU _ hlE,by omega⟩
  ·obtain rfl:j=T.length:=by omega
   simp only [go_sem]
   refine AXa.go mixed (hΓ) (zcS) (by kernel_rfl) ?_
   simp (disch:=first|exact Zq|fail) only [go_sem]
   obtain⟨s1,hs1⟩:∃ s1,s1=newM T.length (⟨q,f0,c0⟩:MS):=⟨_,rfl⟩
   have hs1q:s1.q=q++List.replicate T.length ⟨[],[]⟩:=by rw [hs1];rfl
   have hs1f:s1.f=f0:=by rw [hs1];rfl
   have hs1c:s1.c=c0:=by rw [hs1];rfl
   have hs1l:s1.q.length=q.length+T.length:=by rw [hs1q,Yi,Yw]
   rw [←hs1]at hS1
   have hRl:=zdx M c q.length t s1
   rw [hs1l]at hRl
   have hRc:=zxb M c q.length t s1
   rw [hnl,hs1c]at hRc
   have hcur:=fun i k h=>rowM_cur (m:=M) (c:=c) (b:=q.length) (t:=t) (s:=s1) (by rw [hs1l,hnl,hqt];omega) (fun k hk=>by rw [hs1q,zkX];rw [hnl]at hk;exact hfr k hk) (i:=i) (k:=k) h
   rw [hnl]at hcur
   have hR0:rowM M c q.length t s1 0=s1:=rfl
   have hRN:∀ i,befI T.length t i=none→rowM M c q.length t s1 (i+1)=rowM M c q.length t s1 i:=fun i h=>by rw [rowM,hnl,h]
   have hRS:∀ i k,befI T.length t i=some k→rowM M c q.length t s1 (i+1)=⟨(rowM M c q.length t s1 i).q.set k ⟨[],(arcF M c q.length i (rowM M c q.length t s1 i).f T.length).1⟩,(arcF M c q.length i (rowM M c q.length t s1 i).f T.length).2,(rowM M c q.length t s1 i).c+(arcF M c q.length i (rowM M c q.length t s1 i).f T.length).1.length⟩:=fun i k h=>by rw [rowM,hnl,h]
   have hpN:zCk (mpI 0 (newV q.length T.length)):=zg2 0 _ (zmS _ _)
   generalize rowM M c q.length t s1=R1 at hS1 hRl hRc hcur hR0 hRN hRS
   rw [←hs1q]
   generalize hnE:mpI 0 (newV q.length T.length)=nE at hpN
   have hnAt:∀ j,j<T.length→zcp (.int .i64 j) nE 0=some (some (j,.int .i64 (q.length+j:Nat))):=fun j hj=>by rw [←hnE];exact newV_at hj
   refine AXs.loop mixed (hΓ) (zcS) (fun i:Nat=>[(2,.fp [.fs (strs T) T.length,.fs (strs W) W.length,.fs (zI N) N.length,.fs (zI E) E.length]),(4,.ptr 0 0),(6,.ptr 1 0),(7,.int .i64 T.length),(8,.map 3),(9,.int .i64 (R1 i).c),(52,.fs (nats .i64 cs) cs.length),(53,.int .i64 cs.length),(54,.int .i64 t),(11,.int .i64 c),(12,.map 4),(76,.int .i64 ((T.length:Int)+1)),(77,.int .i64 i)])
    (fun i=>⟨[(4,.mp nE T.length),(3,.mp (zbA T.length t) (zaF T.length t)),(2,.cells (stns (R1 i).q)),(1,.cells [.fs (strs T) T.length,.fs (strs W) W.length,.fs (zI N) N.length,.fs (zI E) E.length,.fs (nats .i64 cs) cs.length,.int .i64 (R1 i).f]),(0,.cells [.int .i64 3,.int .i64 0,.str [49],.sl 2 0 (q.length+T.length) 2 none])],5⟩) (fun i=>i≤T.length+1) (fun i=>T.length+1 - i) 0 (by kernel_rfl) (Yk _) (Sub.of0 [(0,0),(1,1),(2,2),(3,3),(4,4)] rfl rfl ?_ ?_) ?_
   ·rw [hR0,hs1c]
    simp only [go_sem]
   ·rw [hR0,hs1f]
    simp only [go_sem]
    exact⟨zbU _ hpN,zbU _ hlE⟩
   intro i e1
   simp (disch:=first|exact Zq|fail) only [go_sem]
   refine AXc.introP (fun e2=>?_) (fun e2=>?_)
   rotate_left
   ·obtain rfl:i=T.length+1:=by omega
    rw [←hS1]at*
    simp only [go_sem]
    refine AXa.go mixed (hΓ) (zcS) (by kernel_rfl) ?_
    simp (disch:=first|exact Zq|fail) only [go_sem]
    refine zi (t+1) (by omega) (by omega) ?_
    rw [zyN,zum, ←hqt,hnE]
    refine Sub.of0 [(0,0),(1,1),(2,2),(3,4)] rfl rfl ?_ ?_
    ·simp only [go_sem]
     simp
    ·simp only [go_sem]
     refine⟨zbU _ hpN,?_⟩
     rw [hlen,hqt,YV,YaI,YN]
   obtain⟨kk,hk⟩:=zyO T.length t i
   cases hb:befI T.length t i with
   |none=>
    have hRi:=hRN i hb
    rw [hb]at hk
    dsimp only at hk
    simp (disch:=first|exact Zq|fail) only [go_sem,hk]
    refine AXs.rounds mixed hΓ zcS [] (by kernel_rfl) ?_
    simp (disch:=first|exact Zq|fail) only [go_sem]
    refine AXa.go mixed (hΓ) (zcS) (by kernel_rfl) ?_
    simp (disch:=first|exact Zq|fail) only [go_sem]
    refine zi (i+1) (by omega) (by omega) ?_
    rw [hRi]
    refine Sub.of0 [(0,0),(1,1),(2,2),(3,3),(4,4)] rfl rfl ?_ ?_
    ·simp only [go_sem]
     simp
    ·simp only [go_sem]
     exact⟨zbU _ hpN,zbU _ hlE⟩
   |some s=>
    have hRi:=hRS i s hb
    rw [hb]at hk
    dsimp only at hk
    obtain⟨hcu,hsl⟩:=hcur i s hb
    have hin:i≤T.length:=(zb8 hb).1
    have hRci:=hRc i
    have hRli:=hRl i
    generalize R1 i=r at hRi hcu hsl hRci hRli
    obtain⟨rq,rf,rc⟩:=r
    dsimp only at hRi hcu hsl hRci hRli ⊢
    have hrc:rc≤2000000000:=by have:=Yak e1 hT40;omega
    have hA0:arcF M c q.length i rf 0=([],rf):=rfl
    have hAl:=zlU M c q.length i rf
    have hAs:∀ j,arcF M c q.length i rf (j+1)=(if (tm (arcF M c q.length i rf j).2 (nx M i j) (em M j c)).1=[48]then(arcF M c q.length i rf j).1 else(arcF M c q.length i rf j).1++[⟨(j+1:Nat),(j+1:Nat),(tm (arcF M c q.length i rf j).2 (nx M i j) (em M j c)).1,(q.length+j:Nat)⟩],
     (tm (arcF M c q.length i rf j).2 (nx M i j) (em M j c)).2):=fun j=>rfl
    generalize arcF M c q.length i rf=A at hRi hA0 hAl hAs
    simp (disch:=first|exact Zq|fail) only [go_sem,hk]
    refine AXs.loop mixed (hΓ) (zcS) (fun j:Nat=>[(2,.fp [.fs (strs T) T.length,.fs (strs W) W.length,.fs (zI N) N.length,.fs (zI E) E.length]),(4,.ptr 0 0),(6,.ptr 1 0),(7,.int .i64 T.length),(8,.map 3),(9,.int .i64 (rc+(A j).1.length:Nat)),(52,.fs (nats .i64 cs) cs.length),(53,.int .i64 cs.length),(54,.int .i64 t),(11,.int .i64 c),(12,.map 4),(76,.int .i64 ((T.length:Int)+1)),(77,.int .i64 i),(14,.int .i64 i),(15,.int .i64 s),(16,.bool true),(17,.int .i64 j)])
     (fun j=>⟨blkA 5 (A j).1 [(4,.mp nE T.length),(3,.mp (zbA T.length t) (zaF T.length t)),(2,.cells ((stns rq).set (s*2+1) (slA 5 (A j).1))),(1,.cells [.fs (strs T) T.length,.fs (strs W) W.length,.fs (zI N) N.length,.fs (zI E) E.length,.fs (nats .i64 cs) cs.length,.int .i64 (A j).2]),(0,.cells [.int .i64 3,.int .i64 0,.str [49],.sl 2 0 (q.length+T.length) 2 none])],6⟩) (fun j=>j≤T.length) (fun j=>T.length - j) 0 (by kernel_rfl) (Yk _) ?_ ?_
    ·rw [hA0,zkr,zg9,stns_id hsl (by rw [hcu])]
     refine Sub.of0 [(0,0),(1,1),(2,2),(3,3),(4,4)] rfl rfl ?_ ?_
     ·simp only [go_sem]
     ·simp only [go_sem]
      exact⟨zbU _ hpN,zbU _ hlE⟩
    intro j y1
    have hAj:=hAs j
    have hAlj:=hAl j
    generalize haj:A j=a at hAj hAlj
    obtain⟨l,f⟩:=a
    dsimp only at hAj hAlj ⊢
    simp (disch:=first|exact Zq|fail) only [go_sem]
    refine AXc.introP (fun y2=>?_) (fun y2=>?_)
    rotate_left
    ·obtain rfl:j=T.length:=by omega
     rw [haj]at hRi
     dsimp only at hRi
     have hst:=zhs rq s l hsl
     rw [hcu]at hst
     dsimp only at hst
     by_cases ne:l=[]
     ·rw [ne,zkr,zg9, ←zBL, ←ne,hst]
      simp only [go_sem]
      refine AXa.go mixed (hΓ) (zcS) (by kernel_rfl) ?_
      simp (disch:=first|exact Zq|fail) only [go_sem]
      refine zi (i+1) (by omega) (by omega) ?_
      rw [hRi]
      refine Sub.of0 [(0,0),(1,1),(2,2),(3,3),(4,4)] rfl rfl ?_ ?_
      ·simp only [go_sem]
       simp
      ·simp only [go_sem]
       exact⟨zbU _ hpN,zbU _ hlE⟩
     ·rw [zmn 5 ne,ziy 5 ne]
      rw [arV_ne ne]at hst
      simp only [go_sem]
      refine AXa.fz3 [5] (env':=[(2,.fp [.fs (strs T) T.length,.fs (strs W) W.length,.fs (zI N) N.length,.fs (zI E) E.length]),(4,.ptr 0 0),(6,.ptr 1 0),(7,.int .i64 T.length),(8,.map 3),(9,.int .i64 (rc+l.length:Nat)),(52,.fs (nats .i64 cs) cs.length),(53,.int .i64 cs.length),(54,.int .i64 t),(11,.int .i64 c),(12,.map 4),(76,.int .i64 ((T.length:Int)+1)),(77,.int .i64 i)]) (n':=5)
       [(4,.mp nE T.length),(3,.mp (zbA T.length t) (zaF T.length t)),(2,.cells ((stns rq).set (s*2+1) (.fs (arcs l) l.length))),(1,.cells [.fs (strs T) T.length,.fs (strs W) W.length,.fs (zI N) N.length,.fs (zI E) E.length,.fs (nats .i64 cs) cs.length,.int .i64 f]),(0,.cells [.int .i64 3,.int .i64 0,.str [49],.sl 2 0 (q.length+T.length) 2 none])] (fun b h=>by cases h) (fun b h=>by rw [Yah.1 h];exact⟨Yk _,rfl⟩) ?_
       (zzi ⟨⟨by decide,by simp,_,rfl,.inl (zbU _ hpN)⟩,⟨by decide,by simp,_,rfl,.inl (zbU _ hlE)⟩,⟨by decide,by simp,_,rfl,fzB_set (zd6 rq) (FrzF.slp (by simp) rfl rfl (by rw [zhb];omega) (by rw [Y2];exact(Yj (by rw [zhb];exact Ye _)).symm) (zes _))⟩,
        ⟨by decide,by simp,_,rfl,.inl (.cells (zt (zde ⟨⟨T,W,N,E⟩,cs,f⟩)))⟩,⟨by decide,by simp,_,rfl,.inl (.cells (aCell_rn ⟨by simp,by decide⟩))⟩,trivial⟩) (fun b hb=>absurd hb (Ybz b)) (Yk _) ?_
      ·simp only [go_sem]
       exact⟨.inl ⟨by simp,rfl⟩,.inl ⟨by simp,rfl⟩,.inl ⟨by simp,rfl⟩,.inl ⟨by simp,rfl⟩⟩
      rw [hst]
      refine AXa.go mixed (hΓ) (zcS) (by kernel_rfl) ?_
      simp (disch:=first|exact Zq|fail) only [go_sem]
      refine zi (i+1) (by omega) (by omega) ?_
      rw [hRi]
      refine Sub.of0 [(0,0),(1,1),(2,2),(3,3),(4,4)] rfl rfl ?_ ?_
      ·simp only [go_sem]
       simp
      ·simp only [go_sem]
       exact⟨zbU _ hpN,zbU _ hlE⟩
    have hj:j<T.length:=by omega
    have n1:=zcV N i (by omega)
    have n2:=v2 i hin
    have n3:=zcV E j (by omega)
    have n4:=v4 j hj
    have l1:=(hl i j).1
    have l2:=(hl j c).2
    rw [hn]at l1 hAj
    rw [he]at l2 hAj
    have hz:=hnAt j hj
    generalize hA:(nthR N i).getD j []=a1 at l1 hAj
    generalize hB:(nthR E j).getD c []=a2 at l2 hAj
    have t1:∀(bs:List (Nat×Blk)) (n:Nat),zas bs 1=some (.cells [.fs (strs T) T.length,.fs (strs W) W.length,.fs (zI N) N.length,.fs (zI E) E.length,.fs (nats .i64 cs) cs.length,.int .i64 f])→((keysB bs).all fun b=>decide (b<n))=true→ΔR 36 [.ptr 1 0,.str a1,.str a2] ⟨bs,n⟩=some ⟨True,.str (tm f a1 a2).1,(⟨bs,n⟩:Hp).put 1 (.cells [.fs (strs T) T.length,.fs (strs W) W.length,.fs (zI N) N.length,.fs (zI E) E.length,.fs (nats .i64 cs) cs.length,.int .i64 (tm f a1 a2).2]),[1],[1]⟩:=fun bs n h k=>zv6 1 ⟨⟨T,W,N,E⟩,cs,f⟩ a1 a2 bs n l1 l2 h k
    have lx:=tm_len f a1 a2
    generalize tm f a1 a2=z at t1 lx hAj
    obtain⟨z1,z2⟩:=z
    dsimp only at t1 lx hAj
    by_cases ne:l=[]
    ·subst ne
     have t2:=t1 [(4,.mp nE T.length),(3,.mp (zbA T.length t) (zaF T.length t)),(2,.cells ((stns rq).set (s*2+1) .nilS)),(1,.cells [.fs (strs T) T.length,.fs (strs W) W.length,.fs (zI N) N.length,.fs (zI E) E.length,.fs (nats .i64 cs) cs.length,.int .i64 f]),(0,.cells [.int .i64 3,.int .i64 0,.str [49],.sl 2 0 (q.length+T.length) 2 none])] 6 rfl rfl
     simp (disch:=first|exact Zq|fail) only [go_sem,zkr,zg9,n1,n3,hA,hB,t2]
     try (repeat refine sdC ?_)
     simp (disch:=first|exact Zq|fail) only [go_sem]
     refine AXc.introN (fun y3=>?_) (fun y3=>?_)
     ·rw [Yd y3]at hAj
      have g1:=zmf rq s hsl .nilS
      simp (disch:=first|exact Zq|fail) only [go_sem,hz,g1]
      refine⟨by omega,by rw [YL,zct];omega,by omega,by rw [YL,zct];omega,AXk.intro (by kernel_rfl) ?_⟩
      rw [zw2]
      simp (disch:=first|exact Zq|fail) only [go_sem]
      refine zi (j+1) (by omega) (by omega) ?_
      rw [hAj,YbK]
      have nn:[(⟨((j+1:Nat):Int),((j+1:Nat):Int),z1,((q.length+j:Nat):Int)⟩:Arc)]≠[]:=by simp
      rw [zmn 5 nn,ziy 5 nn]
      refine Sub.of0 [(0,0),(1,1),(2,2),(3,3),(4,4),(5,7)] rfl rfl ?_ ?_
      ·simp only [go_sem]
       simp
      ·simp only [go_sem]
       exact⟨zt (zes [⟨((j+1:Nat):Int),((j+1:Nat):Int),z1,((q.length+j:Nat):Int)⟩]),zbU _ hpN,zbU _ hlE,zg3 (zd6 rq) (.sl (π:=piL [(0,0),(1,1),(2,2),(3,3),(4,4),(5,7)]) (b:=5) (by decide) (.inl rfl))⟩
     ·rw [Yf y3]at hAj
      simp (disch:=first|exact Zq|fail) only [go_sem]
      refine zi (j+1) (by omega) (by omega) ?_
      rw [hAj]
      rw [zkr,zg9]
      refine Sub.of0 [(0,0),(1,1),(2,2),(3,3),(4,4)] rfl rfl ?_ ?_
      ·simp only [go_sem]
       simp
      ·simp only [go_sem]
       exact⟨zbU _ hpN,zbU _ hlE,zg3 (zd6 rq) (.same .nilS)⟩
    ·have t2:=t1 [(5,.cells (arcs l)),(4,.mp nE T.length),(3,.mp (zbA T.length t) (zaF T.length t)),(2,.cells ((stns rq).set (s*2+1) (.sl 5 0 l.length 4 none))),(1,.cells [.fs (strs T) T.length,.fs (strs W) W.length,.fs (zI N) N.length,.fs (zI E) E.length,.fs (nats .i64 cs) cs.length,.int .i64 f]),(0,.cells [.int .i64 3,.int .i64 0,.str [49],.sl 2 0 (q.length+T.length) 2 none])] 6 rfl rfl
     simp (disch:=first|exact Zq|fail) only [go_sem,zmn 5 ne,ziy 5 ne,n1,n3,hA,hB,t2]
     try (repeat refine sdC ?_)
     simp (disch:=first|exact Zq|fail) only [go_sem]
     refine AXc.introN (fun y3=>?_) (fun y3=>?_)
     ·rw [Yd y3]at hAj
      have g1:=zmf rq s hsl (.sl 5 0 l.length 4 none)
      have tk:List.take (l.length*4) (arcs l)=arcs l:=Yj (by rw [zhb];exact Ye _)
      simp (disch:=first|exact Zq|fail) only [go_sem,hz,g1,tk]
      refine⟨by omega,by rw [YL,zct];omega,by omega,by omega,by rw [YL,zct];omega,AXk.intro (by kernel_rfl) ?_⟩
      rw [zw2]
      simp (disch:=first|exact Zq|fail) only [go_sem]
      refine zi (j+1) (by omega) (by omega) ?_
      rw [hAj]
      have nn:l++[(⟨((j+1:Nat):Int),((j+1:Nat):Int),z1,((q.length+j:Nat):Int)⟩:Arc)]≠[]:=by simp
      have nl:(l++[(⟨((j+1:Nat):Int),((j+1:Nat):Int),z1,((q.length+j:Nat):Int)⟩:Arc)]).length=l.length+1:=by simp
      rw [zmn 5 nn,ziy 5 nn,nl]
      refine Sub.of0 [(0,0),(1,1),(2,2),(3,3),(4,4),(5,7)] rfl rfl ?_ ?_
      ·simp only [go_sem]
       simp
       omega
      ·simp only [go_sem]
       refine⟨?_,zbU _ hpN,zbU _ hlE,zg3 (zd6 rq) (.sl (π:=piL [(0,0),(1,1),(2,2),(3,3),(4,4),(5,7)]) (b:=5) (by decide) (.inl rfl))⟩
       have e:=arcR.cells_append l [⟨((j+1:Nat):Int),((j+1:Nat):Int),z1,((q.length+j:Nat):Int)⟩]
       have e':arcs (l++[⟨((j+1:Nat):Int),((j+1:Nat):Int),z1,((q.length+j:Nat):Int)⟩])=arcs l++[.int .i64 ((j:Int)+1),.int .i64 ((j:Int)+1),.str z1,.int .i64 ((q.length+j:Nat):Int)]:=e
       rw [←e']
       exact zt (zes _)
     ·rw [Yf y3]at hAj
      simp (disch:=first|exact Zq|fail) only [go_sem]
      refine zi (j+1) (by omega) (by omega) ?_
      rw [hAj]
      rw [zmn 5 ne,ziy 5 ne]
      refine Sub.of0 [(0,0),(1,1),(2,2),(3,3),(4,4),(5,5)] rfl rfl ?_ ?_
      ·simp only [go_sem]
       simp
      ·simp only [go_sem]
       exact⟨zbU _ hpN,zbU _ hlE,zg3 (zd6 rq) (.sl (π:=piL [(0,0),(1,1),(2,2),(3,3),(4,4),(5,5)]) (b:=5) (by decide) (.inl rfl))⟩
def MachOK(p:Mdl×List Str):Prop:=Fit p.1∧p.2.length≤1000∧∀ i j,(nx p.1 i j).length≤1000000000∧(em p.1 i j).length≤1000000000
noncomputable def cTMach:List V→Option PR:=zu (fun p:Mdl×List Str=>[mdlV p.1,.fs (strs p.2) p.2.length]) MachOK fun p=>.ret (.tup [zah (zfA p.1 p.2).1,.int .i64 (zfA p.1 p.2).2])
theorem zAl(m:Mdl)(ws:List Str)(h:MachOK (m,ws)):cTMach [mdlV m,.fs (strs ws) ws.length]=some (.ret (.tup [zah (zfA m ws).1,.int .i64 (zfA m ws).2])):=
 zo (pat:=fun p:Mdl×List Str=>[mdlV p.1,.fs (strs p.2) p.2.length]) (fun x y h=>by simp only [Yu,V.fs.injEq,Yam]at h;exact YT (zeG h.1) (zam h.2.1)) (m,ws) h
theorem zAk:∀ args r,cTMach args=some r→PCall prog 22 args r:=zn fun p h=>ztV p.1 p.2 h.1 h.2.1 h.2.2
end Go.Proofs
