/- Whether a model is valid: the program and the reference. -/
import Derived.Test.YthbimeikbkjnkaaGreatDoorCT2
set_option linter.all false
set_option maxHeartbeats 16000000
set_option maxRecDepth 100000
namespace Go.Proofs
open Tryz Go.Ab Go.Cnt Go.Pl
structure Fit(m:Mdl):Prop where
 tl:m.tags.length≤100000
 wl:m.words.length≤100000
 nl:m.next.length≤100000
 el:m.emit.length≤100000
 ts:∀ s∈m.tags,s.length≤1000000000000000
 ws:∀ s∈m.words,s.length≤1000000000000000
 nr:∀ r∈m.next,r.length≤1000000
 er:∀ r∈m.emit,r.length≤1000000
 ns:∀ r∈m.next,∀ s∈r,s.length≤1000000
 es:∀ r∈m.emit,∀ s∈r,s.length≤1000000
noncomputable def vmB(m:Mdl):Bool:=decide (m.tags.length≤40)&&(decide (m.words.length≤500)&&(incS m.tags&&(incS m.words&&((m.tags++m.words).all nameB&&(matB m.next (m.tags.length+1) (m.tags.length+1)&&matB m.emit m.tags.length (m.words.length+1))))))
noncomputable def cRows:List V→Option PR:=zF (fun p:List (List Str)×Nat×Nat=>[.fs (zu p.1) p.1.length,.int .i64 p.2.1,.int .i64 p.2.2]) (fun p=>p.1.length≤1000000∧(∀ r∈p.1,r.length≤1000000)∧∀ r∈p.1,∀ s∈r,s.length≤1000000) fun p=>.ret (.bool (matB p.1 p.2.1 p.2.2))
theorem cRows_ok:∀ args r,cRows args=some r→PCall prog 107 args r:=zn fun p h=>rows_ok p.1 p.2.1 p.2.2 h.1 h.2.1 h.2.2
theorem zrl(m:List (List Str))(n w:Nat)(a b:Int)(ha:a=n)(hb:b=w)(h1:m.length≤1000000)(h2:∀ r∈m,r.length≤1000000)(h3:∀ r∈m,∀ s∈r,s.length≤1000000):cRows [.fs (zu m) m.length,.int .i64 a,.int .i64 b]=some (.ret (.bool (matB m n w))):=by
 subst ha hb;exact zo (pat:=fun p:List (List Str)×Nat×Nat=>[V.fs (zu p.1) p.1.length,.int .i64 p.2.1,.int .i64 p.2.2]) (fun x y h=>by
  obtain⟨x1,x2,x3⟩:=x;obtain⟨y1,y2,y3⟩:=y;simp only [List.cons.injEq,V.fs.injEq,V.int.injEq,and_true,true_and]at h;obtain⟨⟨e1,_⟩,e2,e3⟩:=h;have e2':x2=y2:=by omega
  have e3':x3=y3:=by omega
  rw [zc2 e1,e2',e3']) (m,n,w) ⟨h1,h2,h3⟩
noncomputable def ΔV:FuncId→List V→Hp→Option AR:=zbJ 105 (conD zlx) noΔ
theorem zly:zaT prog ΔV:=zV (zaq zpY) zg
theorem zjO(m:Mdl)(h:Fit m):PCall prog 64 [mdlV m] (.ret (.bool (vmB m))):=by
 have hΓ:=zf zz5 (zf cName_ok (zf cRows_ok zh));obtain⟨tl,wl,nl,el,ts,ws,nr,er,ns,es⟩:=h;obtain⟨T,W,N,E⟩:=m;dsimp only at tl wl nl el ts ws nr er ns es;have m1:=zrl N (T.length+1) (T.length+1) ((T.length:Int)+1) ((T.length:Int)+1) (by omega) (by omega) (by omega) nr ns;have m2:=zrl E T.length (W.length+1) (T.length:Int) ((W.length:Int)+1) rfl (by omega) (by omega) er es;refine PCall.walk (rs:=[.tmp 2]) [0,1,2,3,4,6,30,36,37,38,39,44] [25] mixed (hΓ) (zly) call64 func64 rfl ntmps64 rfl (by kernel_rfl) (by simp) (by simp [push_cast,zdp]) ?_;have hb:(decide (40<(T.length:Int))||decide (500<(W.length:Int))|| !incS T|| !incS W)= !(decide (T.length≤40)&&decide (W.length≤500)&&incS T&&incS W):=by
  have e1:decide (40<(T.length:Int))= !decide (T.length≤40):=by
   by_cases h:T.length≤40
   ·simp [h];omega
   ·simp [h];omega
  have e2:decide (500<(W.length:Int))= !decide (W.length≤500):=by
   by_cases h:W.length≤500
   ·simp [h];omega
   ·simp [h];omega
  rw [e1,e2];cases decide (T.length≤40)<;>cases decide (W.length≤500)<;>cases incS T<;>cases incS W<;>rfl
 have hv:vmB ⟨T,W,N,E⟩=((decide (T.length≤40)&&decide (W.length≤500)&&incS T&&incS W)&&((T++W).all nameB&&(matB N (T.length+1) (T.length+1)&&matB E T.length (W.length+1)))):=by simp only [vmB,Bool.and_assoc]
 rw [hv];simp (disch:=first|assumption|(push_cast<;>omega)|omega) only [go_sem,mdlV];rw [hb];cases h0:(decide (T.length≤40)&&decide (W.length≤500)&&incS T&&incS W)with
 |false=>simp (disch:=first|assumption|(push_cast<;>omega)|omega) only [go_sem]
 |true=>
  have hC:=zpZ 0 T W [(0,.cells [.fs (strs T) T.length,.fs (strs W) W.length])] 1 rfl tl wl rfl;by_cases he:T.length+W.length=0
  ·rw [if_pos he]at hC;have hC':ΔV 105 [.sl 0 0 2 1 (some 2)] ⟨[(0,.cells [.fs (strs T) T.length,.fs (strs W) W.length])],1⟩=_:=hC;obtain rfl:T=[]:=List.eq_nil_of_length_eq_zero (by omega);obtain rfl:W=[]:=List.eq_nil_of_length_eq_zero (by omega);have hC2:ΔV 105 [.sl 0 0 2 1 (some 2)] ⟨[(0,.cells [.fs [] 0,.fs [] 0])],1⟩=some ⟨True,.nilS,⟨[(0,.cells [.fs [] 0,.fs [] 0])],1⟩,[0],[]⟩:=hC';have k1:cRows [.fs (zu N) N.length,.int .i64 1,.int .i64 1]=some (.ret (.bool (matB N 1 1))):=m1;have k2:cRows [.fs (zu E) E.length,.int .i64 0,.int .i64 1]=some (.ret (.bool (matB E 0 1))):=m2;simp (disch:=first|assumption|(push_cast<;>omega)|omega) only [go_sem,hC2];refine AXs.rounds mixed hΓ zly [] (by kernel_rfl) ?_;simp (disch:=first|assumption|(push_cast<;>omega)|omega) only [go_sem];refine AXa.go mixed (hΓ) (zly) (by kernel_rfl) ?_;simp (disch:=first|assumption|(push_cast<;>omega)|omega) only [go_sem,k1,k2]
  rw [if_neg he]at hC;have hC':ΔV 105 [.sl 0 0 2 1 (some 2)] ⟨[(0,.cells [.fs (strs T) T.length,.fs (strs W) W.length])],1⟩=_:=hC;have hlen:(T++W).length=T.length+W.length:=List.length_append;simp (disch:=first|assumption|(push_cast<;>omega)|omega) only [go_sem,hC',hlen];have hpm:∀ x∈[V.fs (strs T) T.length,.fs (strs W) W.length,.fs (zu N) N.length,.fs (zu E) E.length],Pure x:=fun x h=>by
   simp only [List.mem_cons,List.not_mem_nil,or_false]at h;rcases h with rfl|rfl|rfl|rfl
   ·exact .fs (zae _)
   ·exact .fs (zae _)
   ·exact .fs (zaP _)
   ·exact .fs (zaP _)
  generalize hA:T++W=A at*;refine AXs.loop mixed (hΓ) (zly) (fun i:Nat=>[(1,.fp [.fs (strs T) T.length,.fs (strs W) W.length,.fs (zu N) N.length,.fs (zu E) E.length]),(3,.int .i64 T.length),(4,.int .i64 W.length),(36,.sl 1 0 (T.length+W.length) 1 none),(37,.int .i64 (T.length+W.length:Nat)),(38,.int .i64 i)]) (fun _=>⟨[(1,.cells (strs A))],2⟩) (fun i=>i≤A.length∧∀ j,j<i→nameB (A.getD j [])=true) (fun i=>A.length - i) 0 (by kernel_rfl) ⟨Nat.zero_le _,fun j hj=>by omega⟩ (Sub.of0 [] rfl rfl ?_ ?_) ?_
  ·simp only [go_sem];exact hpm
  ·simp only [go_sem]
  rintro i ⟨h1,h2⟩;simp (disch:=first|assumption|(push_cast<;>omega)|omega) only [go_sem];refine AXc.introP (fun h3=>?_) (fun h3=>?_)
  ·have hi:i<A.length:=by omega
   simp (disch:=first|assumption|(push_cast<;>omega)|omega) only [go_sem]
   (repeat refine sdC ?_);cases hn:nameB (A.getD i [])with
   |false=>
    simp (disch:=first|assumption|(push_cast<;>omega)|omega) only [go_sem];rw [zrI hi hn];rfl
   |true=>
    simp (disch:=first|assumption|(push_cast<;>omega)|omega) only [go_sem];refine zk (i+1) ⟨by omega,fun j hj=>?_⟩ (by omega) (Sub.of0 [] rfl rfl ?_ ?_)
    ·by_cases hji:j<i
     ·exact h2 j hji
     ·obtain rfl:j=i:=by omega
      exact hn
    ·simp only [go_sem];refine⟨hpm,?_⟩;simp
    ·simp only [go_sem]
  ·have hi:i=A.length:=by omega
   rw [zrH fun j hj=>h2 j (by omega)];simp (disch:=first|assumption|(push_cast<;>omega)|omega) only [go_sem];refine AXa.go mixed (hΓ) (zly) (by kernel_rfl) ?_;simp (disch:=first|assumption|(push_cast<;>omega)|omega) only [go_sem,m1,m2]
noncomputable def cTVM:List V→Option PR:=zF (fun m:Mdl=>[mdlV m]) (fun m=>Fit m) fun m=>.ret (.bool (vmB m))
theorem zzn(m:Mdl)(h:Fit m):cTVM [mdlV m]=some (.ret (.bool (vmB m))):=zo (pat:=fun m:Mdl=>[mdlV m]) (fun x y h=>zgC (by simpa using h)) m h
theorem zzm:∀ args r,cTVM args=some r→PCall prog 64 args r:=zn fun m h=>zjO m h
def zq(m:Mdl)(ws:List Str):List Nat:=ws.map (idxS m.words)
def slN(b:Nat)(l:List Nat):V:=if l=[]then .nilS else .sl b 0 l.length 1 none
def blkN(b:Nat)(l:List Nat)(r:List (Nat×Blk)):List (Nat×Blk):=if l=[]then r else(b,.cells (nats .i64 l))::r
theorem zoa(b:Nat):slN b []=.nilS:=rfl
theorem zlm(b:Nat)(r:List (Nat×Blk)):blkN b [] r=r:=rfl
theorem zqn(b:Nat){l:List Nat}(h:l≠[]):slN b l=.sl b 0 l.length 1 none:=if_neg h
theorem zln(b:Nat){l:List Nat}(h:l≠[])(r:List (Nat×Blk)):blkN b l r=(b,.cells (nats .i64 l))::r:=if_neg h
theorem ziW(m:Mdl)(ws:List Str):(!vmB m||decide (200<(ws.length:Int))|| !ws.all nameB)= !(vmB m&&zci ws):=by
 have e:decide (200<(ws.length:Int))= !decide (ws.length≤200):=by
  by_cases h:ws.length≤200
  ·rw [decide_eq_true h,decide_eq_false (by omega)];rfl
  ·rw [decide_eq_false h,decide_eq_true (by omega)];rfl
 unfold zci;rw [e];cases vmB m<;>cases ws.all nameB<;>cases decide (ws.length≤200)<;>rfl
theorem zpq(m:Mdl)(ws:List Str)(i:Nat)(h:i<ws.length):zq m (ws.take (i+1))=zq m (ws.take i)++[idxS m.words (ws.getD i [])]:=by unfold zq;rw [List.take_add_one,List.getElem?_eq_getElem h,List.getD_eq_getElem?_getD,List.getElem?_eq_getElem h,List.map_append];rfl
theorem zt7(m:Mdl)(ws:List Str)(i:Nat)(h:i≤ws.length):(zq m (ws.take i)).length=i:=by unfold zq;simp;omega
theorem mdl4(T W:List Str)(N E:List (List Str)):∀ x∈[V.fs (strs T) T.length,.fs (strs W) W.length,.fs (zu N) N.length,.fs (zu E) E.length],Pure x:=fun x h=>by
 simp only [List.mem_cons,List.not_mem_nil,or_false]at h;rcases h with rfl|rfl|rfl|rfl
 ·exact .fs (zae _)
 ·exact .fs (zae _)
 ·exact .fs (zaP _)
 ·exact .fs (zaP _)
theorem mdl4P(T W:List Str)(N E:List (List Str)):(∀ x∈[V.fs (strs T) T.length,.fs (strs W) W.length,.fs (zu N) N.length,.fs (zu E) E.length],Pure x)↔True:=⟨fun _=>trivial,fun _=>mdl4 T W N E⟩
attribute [go_sem] mdl4P
theorem zvI(m:Mdl)(ws:List Str)(hf:Fit m)(hw:ws.length≤1000000)(hb:(vmB m&&zci ws)=false):NCall prog 33 [mdlV m,.fs (strs ws) ws.length] [] [] (.tup [.nilP,.int .i64 1]) ⟨[],0⟩:=by
 have hΓ:=zf zzm (zf zAb (zf zh5 zh));have p1:=zzn m hf;have sc:=ziW m ws;obtain⟨T,W,N,E⟩:=m;unfold mdlV at p1 ⊢;dsimp only at p1 ⊢;rw [hb]at sc;refine NCall.walk (rs:=[.tmp 4,.tmp 5]) [0,1,2,4,5,6,8,20,24,25,26,27] [25] 0 mixed (hΓ) (zg) call33 func33 rfl ntmps33 rfl (by kernel_rfl) (by simp) (by simp) (by simp) ?_;simp (disch:=first|assumption|(push_cast<;>omega)|omega) only [go_sem,p1];rw [sc];simp (disch:=first|assumption|(push_cast<;>omega)|omega) only [go_sem];exact⟨[(4,.nilP),(5,.int .i64 1)],Sub.of [] rfl (by simp only [go_sem]) (by simp only [go_sem]) (by decide) (fun b hb _=>absurd hb (Nat.not_lt_zero b)),rfl⟩
theorem start_N(m:Mdl)(ws:List Str)(hf:Fit m)(hw:ws.length≤1000000)(hv:vmB m=true)(hb:zci ws=true):NCall prog 33 [mdlV m,.fs (strs ws) ws.length] [] [] (.tup [.ptr 0 0,.int .i64 0]) ⟨[(0,.cells (runC ⟨m,zq m ws,0⟩))],1⟩:=by
 have hΓ:=zf zzm (zf zAb (zf zh5 zh));have p1:=zzn m hf;have sc:(!vmB m||decide (200<(ws.length:Int))|| !ws.all nameB)=false:=by rw [ziW,hv,hb];rfl
 have hi:incS m.words=true:=by unfold vmB at hv;simp only [Bool.and_eq_true]at hv;exact hv.2.2.2.1
 have hwl:=hf.wl;have ct:=zpq m ws;have cl:=zt7 m ws;obtain⟨T,W,N,E⟩:=m;unfold mdlV at p1 ⊢;dsimp only at p1 hi ct hwl ⊢;refine NCall.walk (rs:=[.tmp 4,.tmp 5]) [0,1,2,4,5,6,8,20,24,25,26,27] [25] 0 mixed (hΓ) (zg) call33 func33 rfl ntmps33 rfl (by kernel_rfl) (by simp) (by simp) (by simp) ?_;simp (disch:=first|assumption|(push_cast<;>omega)|omega) only [go_sem,p1];rw [sc];simp (disch:=first|assumption|(push_cast<;>omega)|omega) only [go_sem];obtain⟨M,hM⟩:∃ M,M=(⟨T,W,N,E⟩:Mdl):=⟨_,rfl⟩;rw [←hM]at ct cl ⊢;refine AXs.loop mixed (hΓ) (zg) (fun i:Nat=>[(2,.fp [.fs (strs T) T.length,.fs (strs W) W.length,.fs (zu N) N.length,.fs (zu E) E.length]),(6,.ptr 0 0),(24,.fs (strs ws) ws.length),(25,.int .i64 ws.length),(26,.int .i64 i)])
  (fun i=>⟨blkN 1 (zq M (ws.take i)) [(0,.cells [.fs (strs T) T.length,.fs (strs W) W.length,.fs (zu N) N.length,.fs (zu E) E.length,slN 1 (zq M (ws.take i)),.int .i64 0])],2⟩) (fun i=>i≤ws.length) (fun i=>ws.length - i) 0 (by kernel_rfl) (Nat.zero_le _) (Sub.of0 [(0,0)] rfl rfl ?_ ?_) ?_
 ·simp only [go_sem]
 ·rw [List.take_zero,show zq M []=[]from rfl];simp only [go_sem,zlm,zoa]
 intro i h1;have cli:=cl i h1;simp (disch:=first|assumption|(push_cast<;>omega)|omega) only [go_sem];refine AXc.introP (fun h2=>?_) (fun h2=>?_)
 ·have hil:i<ws.length:=by omega
  have cti:=ct i hil;generalize zq M (ws.take i)=acc at cti cli ⊢;by_cases ne:acc=[]
  ·subst ne;have i0:i=0:=cli.symm;have nn:[idxS W (ws.getD i [])]≠[]:=by simp
   rw [List.nil_append]at cti;simp (disch:=first|assumption|(push_cast<;>omega)|omega) only [go_sem,zoa,zlm]
   (repeat refine sdC ?_);simp (disch:=first|assumption|(push_cast<;>omega)|omega) only [go_sem];refine zk (i+1) (by omega) (by omega) ?_;rw [cti,zqn 1 nn,zln 1 nn];refine Sub.of0 [(0,0),(1,3)] rfl rfl ?_ ?_
   ·simp only [go_sem];simp
   ·simp only [go_sem];rfl
  ·have nn:acc++[idxS W (ws.getD i [])]≠[]:=by simp
   have nl:(acc++[idxS W (ws.getD i [])]).length=acc.length+1:=by simp
   have tk:List.take acc.length acc=acc:=List.take_length;simp (disch:=first|assumption|(push_cast<;>omega)|omega) only [go_sem,zqn 1 ne,zln 1 ne]
   (repeat refine sdC ?_);simp (disch:=first|assumption|(push_cast<;>omega)|omega) only [go_sem];refine zk (i+1) (by omega) (by omega) ?_;rw [cti,zqn 1 nn,zln 1 nn,nl];refine Sub.of0 [(0,0),(1,3)] rfl rfl ?_ ?_
   ·simp only [go_sem];simp
   ·simp only [go_sem,tk]
 ·obtain rfl:i=ws.length:=by omega
  rw [List.take_length]at cli ⊢;subst hM;simp (disch:=first|assumption|(push_cast<;>omega)|omega) only [go_sem];by_cases ne:zq ⟨T,W,N,E⟩ ws=[]
  ·rw [ne,zoa,zlm];refine AXa.go mixed (hΓ) (zg) (by kernel_rfl) ?_;simp (disch:=first|assumption|(push_cast<;>omega)|omega) only [go_sem];refine⟨[(4,.ptr 0 0),(5,.int .i64 0)],Sub.of [(0,0)] rfl ?_ ?_ (by decide) (fun b hb _=>absurd hb (Nat.not_lt_zero b)),rfl⟩
   ·simp only [go_sem]
   ·unfold runC;simp only [go_sem]
  ·rw [zqn 1 ne,zln 1 ne];refine AXa.fz2 [1] [(0,runC ⟨⟨T,W,N,E⟩,zq ⟨T,W,N,E⟩ ws,0⟩)] (env':=[(6,.ptr 0 0)]) (n':=1) rfl rfl rfl ?_ ?_ ?_
   ·simp only [go_sem];exact .inl ⟨by simp,rfl⟩
   ·exact⟨⟨by decide,by simp,.inl (.same (.fs (zae _))),.inl (.same (.fs (zae _))),.inl (.same (.fs (zaP _))),.inl (.same (.fs (zaP _))),.inr (FrzF.slp (by simp) rfl rfl (by simp [nats]) (by rw [List.drop_zero,Nat.mul_one];exact(List.take_of_length_le (by simp [nats])).symm) (zY _ _)),.inl (.same (.int _ _)),trivial⟩,trivial⟩
   change AXa _ _ _ _ _ _ ⟨[(0,.cells (runC ⟨⟨T,W,N,E⟩,zq ⟨T,W,N,E⟩ ws,0⟩))],1⟩;refine AXa.go mixed (hΓ) (zg) (by kernel_rfl) ?_;simp (disch:=first|assumption|(push_cast<;>omega)|omega) only [go_sem];refine⟨[(4,.ptr 0 0),(5,.int .i64 0)],Sub.of [(0,0)] rfl ?_ ?_ (by decide) (fun b hb _=>absurd hb (Nat.not_lt_zero b)),rfl⟩
   ·simp only [go_sem]
   ·simp only [go_sem]
def znL(args:List V)(H:Hp)(r:AR):Prop:=∃ m ws,args=[mdlV m,.fs (strs ws) ws.length]∧Fit m∧ws.length≤1000000∧(∀ b x,H.get b=some x→b<H.next)∧
 r=if (vmB m&&zci ws)=true then⟨True,.tup [.ptr H.next 0,.int .i64 0],⟨(H.next,.cells (runC ⟨m,zq m ws,0⟩))::H.bs,H.next+1⟩,[],[]⟩else⟨True,.tup [.nilP,.int .i64 1],H,[],[]⟩
theorem zg7:∀ args H r,znL args H r→HCall prog 33 args H r:=by
 rintro args H r ⟨m,ws,rfl,hf,hw,hk,rfl⟩;have ha:∀ x∈[mdlV m,.fs (strs ws) ws.length],Pure x:=fun x hx=>by
  simp only [List.mem_cons,List.not_mem_nil,or_false]at hx;rcases hx with rfl|rfl
  ·exact zdp m
  ·exact .fs (zae _)
 cases h:(vmB m&&zci ws)with
 |true=>rw [if_pos rfl];simp only [Bool.and_eq_true]at h;exact HCall.freshP (start_N m ws hf hw h.1 h.2) (za3 _) (.int _ _) ha H hk
 |false=>
  rw [if_neg (by simp)];refine HCall.plain (zvI m ws hf hw h) (.tup fun x hx=>?_) ha H hk;simp only [List.mem_cons,List.not_mem_nil,or_false]at hx;rcases hx with rfl|rfl
  ·exact .nilP
  ·exact .int _ _
theorem zg8(m:Mdl)(ws:List Str)(hf:Fit m)(hw:ws.length≤1000000):conD znL [mdlV m,.fs (strs ws) ws.length] ⟨[],0⟩=
 some (if (vmB m&&zci ws)=true then⟨True,.tup [.ptr 0 0,.int .i64 0],⟨[(0,.cells (runC ⟨m,zq m ws,0⟩))],1⟩,[],[]⟩else⟨True,.tup [.nilP,.int .i64 1],⟨[],0⟩,[],[]⟩):=by
 refine zaD ⟨m,ws,rfl,hf,hw,(fun b x h=>by cases h),rfl⟩ fun r' ⟨m',ws',e,_,_,_,e'⟩=>?_
 simp only [List.cons.injEq,V.fs.injEq,and_true]at e
 rw [e', ←zgC e.1, ←zaN e.2.1]
noncomputable def ΔR:FuncId→List V→Hp→Option AR:=zbJ 33 (conD znL) (zbJ 34 (conD (zA9 zkM)) (zbJ 36 (conD (znN zdG)) noΔ))
theorem zp3:zaT prog ΔR:=zV (zaq zg7) (zV (zaq (zkJ zkM fun _ r h=>zyk r h)) (zV (zaq (zel zdG fun x r h=>zjT r x.1 x.2 h.1 h.2)) zg))
theorem zp4(b:Nat)(r:Run)(bs:List (Nat×Blk))(n:Nat)(h:r.m.tags.length≤1000000)(hb:zar bs b=some (.cells (runC r)))(hk:((keysB bs).all fun b=>decide (b<n))=true):
 ΔR 34 [.ptr b 0] ⟨bs,n⟩=some ⟨True,.int .i64 r.m.tags.length,⟨bs,n⟩,[b],[]⟩:=zkK zkM (x:=()) (s:=r) h hb hk
theorem zgM(b:Nat)(r:Run)(p q:Str)(bs:List (Nat×Blk))(n:Nat)(lp:p.length≤1000000000)(lq:q.length≤1000000000)(hb:zar bs b=some (.cells (runC r)))(hk:((keysB bs).all fun b=>decide (b<n))=true):
 ΔR 36 [.ptr b 0,.str p,.str q] ⟨bs,n⟩=some ⟨True,.str (tm r.f p q).1,(⟨bs,n⟩:Hp).put b (.cells (runC ⟨r.m,r.cs,(tm r.f p q).2⟩)),[b],[b]⟩:=zem zdG (x:=(p,q)) (s:=r) ⟨lp,lq⟩ hb hk
end Go.Proofs

namespace Go.Tg
def zbI:List Nat→List Nat→Bool
 |[],[]=>false
 |[],_::_=>true
 |_::_,[]=>false
 |x::a,y::b=>decide (x<y)||(decide (x=y)&&zbI a b)
theorem zxn:∀ a b:List Nat,zbI a b=true∨a=b∨zbI b a=true
 |[],[]=>.inr (.inl rfl)
 |[],_::_=>.inl rfl
 |_::_,[]=>.inr (.inr rfl)
 |x::a,y::b=>by
  simp only [zbI,Bool.or_eq_true,Bool.and_eq_true,decide_eq_true_eq,List.cons.injEq];rcases Nat.lt_trichotomy x y with h|h|h
  ·exact .inl (.inl h)
  ·subst h;rcases zxn a b with h|h|h
   ·exact .inl (.inr ⟨rfl,h⟩)
   ·exact .inr (.inl ⟨rfl,h⟩)
   ·exact .inr (.inr (.inr ⟨rfl,h⟩))
  ·exact .inr (.inr (.inl h))
theorem zhH:∀ {a b c:List Nat},zbI a b=true→zbI b c=true→zbI a c=true
 |[],[],_,h,_=>by simp [zbI]at h
 |[],_::_,[],_,h=>by simp [zbI]at h
 |[],_::_,_::_,_,_=>rfl
 |_::_,[],_,h,_=>by simp [zbI]at h
 |_::_,_::_,[],_,h=>by simp [zbI]at h
 |x::a,y::b,z::c,h,k=>by
  simp only [zbI,Bool.or_eq_true,Bool.and_eq_true,decide_eq_true_eq]at h k ⊢;rcases h with h|⟨rfl,h⟩<;>rcases k with k|⟨rfl,k⟩
  ·exact .inl (by omega)
  ·exact .inl h
  ·exact .inl k
  ·exact .inr ⟨rfl,zhH h k⟩
theorem zxo:∀ a:List Nat,zbI a a=false
 |[]=>rfl
 |x::a=>by simp [zbI,zxo a]
theorem zqN:∀ {a b:List Nat} (j:List Nat),a.length=b.length→zbI (a++j) (b++j)=zbI a b
 |[],[],j,_=>by simp [zbI,zxo]
 |[],_::_,_,h=>by simp at h
 |_::_,[],_,h=>by simp at h
 |x::a,y::b,j,h=>by simp only [List.cons_append,zbI];rw [zqN j (by simpa using h)]
abbrev Cand:=Nat×List Nat
def better(x y:Cand):Cand:=if x.1<y.1∨(x.1=y.1∧y.1≠0∧zbI y.2 x.2=true)then y else x
def stp(x:Cand)(w:Nat)(j:List Nat):Cand:=if x.1*w=0 then(0,[])else(x.1*w,x.2++j)
structure Best(S:Nat→List Nat→Prop)(x:Cand):Prop where
 z:x.1=0→x.2=[]
 i:x.1≠0→S x.1 x.2
 b:∀ w L,S w L→w≤x.1∧(w=x.1→x.1≠0→zbI L x.2=false)
theorem Best.iff {S T:Nat→List Nat→Prop}{x:Cand}(h:Best S x)(e:∀ w L,S w L↔T w L):Best T x:=
 ⟨h.z,fun hx=>(e _ _).1 (h.i hx),fun w L hw=>h.b w L ((e _ _).2 hw)⟩
theorem znt:Best (fun _ _=>False) (0,[]):=⟨fun _=>rfl,fun h=>absurd rfl h,fun _ _ h=>h.elim⟩
theorem zpI {S T:Nat→List Nat→Prop}{x y:Cand}(hx:Best S x)(hy:Best T y):Best (fun w L=>S w L∨T w L) (better x y):=by
 unfold better;split
 ·rename_i h;refine⟨hy.z,fun k=>.inr (hy.i k),fun w L hw=>?_⟩;rcases hw with hw|hw
  ·obtain⟨h1,h2⟩:=hx.b w L hw;refine⟨by omega,fun e hn=>?_⟩;rcases h with h|⟨h3,_,h4⟩
   ·omega
   ·have h5:=h2 (by omega) (by omega);cases h6:zbI L y.2 with
    |false=>rfl
    |true=>rw [zhH h6 h4]at h5;cases h5
  ·exact hy.b w L hw
 ·rename_i h;refine⟨hx.z,fun k=>.inl (hx.i k),fun w L hw=>?_⟩;rcases hw with hw|hw
  ·exact hx.b w L hw
  ·obtain⟨h1,h2⟩:=hy.b w L hw;refine⟨by omega,fun e hn=>?_⟩;have e1:x.1=y.1:=by omega
   have h3:=h2 (by omega) (by omega);cases h6:zbI L x.2 with
   |false=>rfl
   |true=>
    exfalso;apply h;refine .inr ⟨e1,by omega,?_⟩;rcases zxn y.2 x.2 with k|k|k
    ·exact k
    ·rw [k,h6]at h3;cases h3
    ·rw [zhH h6 k]at h3;cases h3
theorem zrB {S:Nat→List Nat→Prop}{x:Cand}{m:Nat}(hx:Best S x)(hm:∀ w L,S w L→L.length=m)(w:Nat)(j:List Nat):
 Best (fun w' L'=>∃ v L,S v L∧w'=v*w∧L'=L++j) (stp x w j):=by
 unfold stp
 split
 ·rename_i h
  refine⟨fun _=>rfl,fun k=>absurd rfl k,fun w' L' ⟨v,L,h1,h2,_⟩=>⟨?_,fun _ k=>absurd rfl k⟩⟩
  have:=Nat.mul_le_mul_right w (hx.b v L h1).1
  show w'≤0
  omega
 ·rename_i h
  have hx0:x.1≠0:=fun e=>h (by rw [e,Nat.zero_mul])
  have hw0:w≠0:=fun e=>h (by rw [e,Nat.mul_zero])
  refine⟨fun k=>absurd k h,fun _=>⟨_,_,hx.i hx0,rfl,rfl⟩,fun w' L' ⟨v,L,h1,h2,h3⟩=>?_⟩
  obtain⟨h4,h5⟩:=hx.b v L h1
  refine⟨?_,fun e _=>?_⟩
  ·rw [h2];exact Nat.mul_le_mul_right w h4
  ·have e':v*w=x.1*w:=by rw [←h2];exact e
   have e2:v=x.1:=Nat.eq_of_mul_eq_mul_right (Nat.pos_of_ne_zero hw0) e'
   rw [h3]
   show zbI (L++j) (x.2++j)=false
   rw [zqN j ((hm v L h1).trans (hm _ _ (hx.i hx0)).symm)]
   exact h5 e2 hx0
theorem zh9 {ι:Type}(S:ι→Nat→List Nat→Prop)(f:ι→Cand)(T:Nat→List Nat→Prop):∀(l:List ι) (x:Cand),Best T x→(∀ i∈l,Best (S i) (f i))→
 Best (fun w L=>T w L∨∃ i∈l,S i w L) (l.foldl (fun v i=>better v (f i)) x)
 |[],x,hx,_=>hx.iff fun w L=>⟨.inl,fun h=>h.elim id fun⟨i,h,_⟩=>by simp at h⟩
 |i::l,x,hx,h=>by
  refine(zh9 S f _ l (better x (f i)) (zpI hx (h i (by simp))) fun k hk=>h k (by simp [hk])).iff fun w L=>?_;constructor
  ·rintro((h|h)|⟨k,hk,h⟩)
   ·exact .inl h
   ·exact .inr ⟨i,by simp,h⟩
   ·exact .inr ⟨k,by simp [hk],h⟩
  ·rintro(h'|⟨k,hk,h'⟩)
   ·exact .inl (.inl h')
   ·rcases List.mem_cons.1 hk with e|hk
    ·subst e;exact .inl (.inr h')
    ·exact .inr ⟨k,hk,h'⟩
section
variable(n:Nat)(a:Nat→Nat→Nat→Nat)(b:Nat→Nat)
def src(t:Nat):List Nat:=if t=0 then [n]else List.range n
def fw:Nat→Nat→Cand
 |0,_=>(1,[])
 |t+1,j=>(src n t).foldl (fun v i=>better v (stp (fw t i) (a t i j) [j])) (0,[])
def fin(T:Nat):Cand:=(src n T).foldl (fun v i=>better v (stp (fw n a T i) (b i) [])) (0,[])
def sfw:Nat→Nat→Nat
 |0,_=>1
 |t+1,j=>(src n t).foldl (fun v i=>v+sfw t i*a t i j) 0
def sfin(T:Nat):Nat:=(src n T).foldl (fun v i=>v+sfw n a T i*b i) 0
def lastOf(L:List Nat)(k:Nat):Nat:=if k=0 then n else L.getD (k - 1) 0
def pw(L:List Nat):Nat→Nat
 |0=>1
 |k+1=>pw L k*a k (lastOf n L k) (L.getD k 0)
def wt(L:List Nat)(T:Nat):Nat:=pw n a L T*b (lastOf n L T)
def LL:Nat→List (List Nat)
 |0=>[[]]
 |t+1=>(LL t).flatMap fun l=>(List.range n).map fun j=>l++[j]
theorem zd8:∀ t,∀ l∈LL n t,l.length=t
 |0,l,h=>by simp [LL]at h;simp [h]
 |t+1,l,h=>by simp only [LL,List.mem_flatMap,List.mem_map,List.mem_range]at h;obtain⟨l',h1,j,_,rfl⟩:=h;simp [zd8 t l' h1]
theorem znO:∀ t,∀ l∈LL n t,∀ x∈l,x<n
 |0,l,h,x,hx=>by simp [LL]at h;simp [h]at hx
 |t+1,l,h,x,hx=>by
  simp only [LL,List.mem_flatMap,List.mem_map,List.mem_range]at h;obtain⟨l',h1,j,hj,rfl⟩:=h;rcases List.mem_append.1 hx with hx|hx
  ·exact znO t l' h1 x hx
  ·rw [List.mem_singleton.1 hx];exact hj
theorem zf7 {L:List Nat}{j k:Nat}(h:k<L.length):(L++[j]).getD k 0=L.getD k 0:=by simp only [List.getD_eq_getElem?_getD,List.getElem?_append_left h]
theorem zf8 {L:List Nat}{j:Nat}:(L++[j]).getD L.length 0=j:=by simp [List.getD_eq_getElem?_getD]
theorem zmw {L:List Nat}{j k:Nat}(h:k≤L.length):lastOf n (L++[j]) k=lastOf n L k:=by
 unfold lastOf;split
 ·rfl
 ·exact zf7 (by omega)
theorem zgE {L:List Nat}{j t:Nat}(h:L.length=t):lastOf n (L++[j]) (t+1)=j:=by unfold lastOf;rw [if_neg (by omega), ←h];exact zf8
theorem zwp {L:List Nat}{j:Nat}:∀ k,k≤L.length→pw n a (L++[j]) k=pw n a L k
 |0,_=>rfl
 |k+1,h=>by rw [pw,pw,zwp k (by omega),zmw n (by omega),zf7 (by omega)]
theorem zwq {L:List Nat}{j t:Nat}(h:L.length=t):pw n a (L++[j]) (t+1)=pw n a L t*a t (lastOf n L t) j:=by rw [pw,zwp n a t (by omega),zmw n (by omega)];congr 2;rw [←h];exact zf8
def Reach(t i w:Nat)(L:List Nat):Prop:=L∈LL n t∧w=pw n a L t∧i=lastOf n L t
theorem zqS {t:Nat}{L:List Nat}(h:L∈LL n t):lastOf n L t∈src n t:=by
 cases t with
 |zero=>simp [lastOf,src]
 |succ t=>simp only [LL,List.mem_flatMap,List.mem_map,List.mem_range]at h;obtain⟨l',h1,j,hj,rfl⟩:=h;rw [zgE n (zd8 n t l' h1)];simpa [src] using hj
theorem zya:∀ t i,i∈src n t→Best (Reach n a t i) (fw n a t i)
 |0,i,hi=>by
  have hi':i=n:=by simpa [src] using hi
  subst hi';refine⟨fun h=>by simp [fw]at h,fun _=>⟨by simp [LL,fw],rfl,rfl⟩,fun w L h=>?_⟩;obtain⟨h1,h2,_⟩:=h;have hL:L=[]:=by simpa [LL] using h1
  subst hL;rw [h2];exact⟨Nat.le_refl _,fun _ _=>rfl⟩
 |t+1,j,hj=>by
  have hj':j<n:=by simpa [src] using hj
  rw [fw];refine(zh9 (fun i w' L'=>∃ v L,Reach n a t i v L∧w'=v*a t i j∧L'=L++[j]) (fun i=>stp (fw n a t i) (a t i j) [j]) _ (src n t) (0,[]) znt
   fun i hi=>zrB (m:=t) (zya t i hi) (fun w L h=>zd8 n t L h.1) (a t i j) [j]).iff fun w L=>?_
  constructor
  ·rintro(h|⟨i,hi,v,L',⟨h1,h2,h3⟩,h4,h5⟩)
   ·exact h.elim
   ·have hl:=zd8 n t L' h1;refine⟨?_,?_,?_⟩
    ·rw [LL,List.mem_flatMap,h5];exact⟨L',h1,List.mem_map.2 ⟨j,List.mem_range.2 hj',rfl⟩⟩
    ·rw [h5,zwq n a hl,h4,h2,h3]
    ·rw [h5,zgE n hl]
  ·rintro⟨h1,h2,h3⟩;simp only [LL,List.mem_flatMap,List.mem_map,List.mem_range]at h1;obtain⟨L',h4,k,hk,rfl⟩:=h1;have hl:=zd8 n t L' h4;rw [zgE n hl]at h3;subst h3;rw [zwq n a hl]at h2;exact .inr ⟨_,zqS n h4,_,L',⟨h4,rfl,rfl⟩,h2,rfl⟩
theorem fin_best(T:Nat):Best (fun w L=>L∈LL n T∧w=wt n a b L T) (fin n a b T):=by
 unfold fin;refine(zh9 (fun i w' L'=>∃ v L,Reach n a T i v L∧w'=v*b i∧L'=L++[]) (fun i=>stp (fw n a T i) (b i) []) _ (src n T) (0,[]) znt
  fun i hi=>zrB (m:=T) (zya n a T i hi) (fun w L h=>zd8 n T L h.1) (b i) []).iff fun w L=>?_
 constructor
 ·rintro(h|⟨i,hi,v,L',⟨h1,h2,h3⟩,h4,h5⟩)
  ·exact h.elim
  ·rw [List.append_nil]at h5;subst h5;exact⟨h1,by rw [h4,h2,h3,wt]⟩
 ·rintro⟨h1,h2⟩;exact .inr ⟨_,zqS n h1,_,L,⟨h1,rfl,rfl⟩,h2,(List.append_nil _).symm⟩
def all(w:List Nat→Nat)(l:List (List Nat)):Cand:=l.foldl (fun m L=>if m.1<w L then(w L,L)else m) (0,[])
theorem zbS {ι:Type}(f:ι→Nat):∀(l:List ι) (x:Nat),l.foldl (fun v i=>v+f i) x=x+(l.map f).sum
 |[],x=>by simp
 |i::l,x=>by rw [List.foldl_cons,zbS f l];simp;omega
theorem sum_swap {ι κ:Type}(f:ι→κ→Nat)(l:List ι)(m:List κ):(l.map fun i=>(m.map fun j=>f i j).sum).sum=(m.map fun j=>(l.map fun i=>f i j).sum).sum:=by
 induction l with
 |nil=>
  simp only [List.map_nil,List.sum_nil];induction m with
  |nil=>rfl
  |cons j m ih=>simp only [List.map_cons,List.sum_cons];omega
 |cons i l ih=>
  simp only [List.map_cons,List.sum_cons];rw [ih];clear ih;induction m with
  |nil=>simp
  |cons j m ih=>simp only [List.map_cons,List.sum_cons]at ih ⊢;omega
theorem sum_mul {ι:Type}(f:ι→Nat)(c:Nat)(l:List ι):(l.map f).sum*c=(l.map fun i=>f i*c).sum:=by
 induction l with
 |nil=>simp
 |cons i l ih=>simp only [List.map_cons,List.sum_cons,Nat.add_mul,ih]
theorem zw6 {ι:Type}(f:ι→Nat)(c:Nat)(l:List ι):c*(l.map f).sum=(l.map fun i=>c*f i).sum:=by
 induction l with
 |nil=>simp
 |cons i l ih=>simp only [List.map_cons,List.sum_cons,Nat.mul_add,ih]
theorem sum_flat {ι κ:Type}(f:κ→Nat)(g:ι→List κ)(l:List ι):((l.flatMap g).map f).sum=(l.map fun i=>((g i).map f).sum).sum:=by
 induction l with
 |nil=>simp
 |cons i l ih=>simp [ih]
theorem zvQ:∀(t:Nat) (g:Nat→Nat),((LL n t).map fun L=>pw n a L t*g (lastOf n L t)).sum=((src n t).map fun i=>sfw n a t i*g i).sum
 |0,g=>by simp [LL,src,pw,lastOf,sfw]
 |t+1,g=>by
  have e1:((LL n (t+1)).map fun L=>pw n a L (t+1)*g (lastOf n L (t+1))).sum=((LL n t).map fun L=>pw n a L t*((List.range n).map fun j=>a t (lastOf n L t) j*g j).sum).sum:=by rw [LL,sum_flat];congr 1;refine List.map_congr_left fun L hL=>?_;rw [List.map_map,zw6];congr 1;refine List.map_congr_left fun j hj=>?_;have hl:=zd8 n t L hL;show pw n a (L++[j]) (t+1)*g (lastOf n (L++[j]) (t+1))=_;rw [zwq n a hl,zgE n hl,Nat.mul_assoc]
  have e2:=zvQ t fun i=>((List.range n).map fun j=>a t i j*g j).sum;rw [e1,e2];have e3:src n (t+1)=List.range n:=by simp [src]
  rw [e3];simp only [zw6];rw [sum_swap];congr 1;refine List.map_congr_left fun j _=>?_;rw [sfw,zbS,Nat.zero_add,sum_mul];congr 1;exact List.map_congr_left fun i _=>by rw [Nat.mul_assoc]
theorem zqo(T:Nat):sfin n a b T=(LL n T).foldl (fun v L=>v+wt n a b L T) 0:=by rw [sfin,zbS,zbS,Nat.zero_add,Nat.zero_add, ←zvQ];rfl
end
end Go.Tg
