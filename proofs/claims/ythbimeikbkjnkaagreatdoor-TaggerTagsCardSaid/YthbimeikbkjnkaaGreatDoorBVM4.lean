/- Whether a model is valid: the program and the reference. -/
import Derived.Test.YthbimeikbkjnkaaGreatDoorBT2
set_option linter.all false
namespace Go.Proofs
open Go.Ab Go.Cnt Go.Pl
structure Fit(m:Mdl):Prop where
 tl:m.tags.length≤100000
 wl:m.words.length≤100000
 nl:m.next.length≤100000
 el:m.emit.length≤100000
 ts:∀ s∈m.tags,s.length≤1000000000000000
 ws:∀ s∈m.words,s.length≤1000000000000000
 nr:∀ r∈m.next,r.length≤1000000
 er:∀ r∈m.emit,r.length≤1000000
 ns:∀ r∈m.next,∀ s∈r,s.length≤1000000
 es:∀ r∈m.emit,∀ s∈r,s.length≤1000000
noncomputable def vmB(m:Mdl):Bool:=decide (m.tags.length≤40)&&(decide (m.words.length≤500)&&(incS m.tags&&(incS m.words&&((m.tags++m.words).all nameB&&(matB m.next (m.tags.length+1) (m.tags.length+1)&&matB m.emit m.tags.length (m.words.length+1))))))
noncomputable def cRows:List V→Option PR:=zB (fun p:List (List Str)×Nat×Nat=>[.fs (zI p.1) p.1.length,.int .i64 p.2.1,.int .i64 p.2.2]) (fun p=>p.1.length≤1000000∧(∀ r∈p.1,r.length≤1000000)∧∀ r∈p.1,∀ s∈r,s.length≤1000000) fun p=>.ret (.bool (matB p.1 p.2.1 p.2.2))
theorem cRows_ok:∀ args r,cRows args=some r→PCall Tryz.prog 107 args r:=zn fun p h=>rows_ok p.1 p.2.1 p.2.2 h.1 h.2.1 h.2.2
theorem zqS(m:List (List Str))(n w:Nat)(a b:Int)(ha:a=n)(hb:b=w)(h1:m.length≤1000000)(h2:∀ r∈m,r.length≤1000000)(h3:∀ r∈m,∀ s∈r,s.length≤1000000):cRows [.fs (zI m) m.length,.int .i64 a,.int .i64 b]=some (.ret (.bool (matB m n w))):=by
 subst ha hb;exact zo (pat:=fun p:List (List Str)×Nat×Nat=>[V.fs (zI p.1) p.1.length,.int .i64 p.2.1,.int .i64 p.2.2]) (fun x y h=>by
  obtain⟨x1,x2,x3⟩:=x;obtain⟨y1,y2,y3⟩:=y;simp only [List.cons.injEq,V.fs.injEq,V.int.injEq,and_true,true_and]at h;obtain⟨⟨e1,_⟩,e2,e3⟩:=h;have e2':x2=y2:=by omega
  have e3':x3=y3:=by omega
  rw [zb4 e1,e2',e3']) (m,n,w) ⟨h1,h2,h3⟩
noncomputable def zzh:List V→Option PR:=zB (fun p:List (List Str)×Nat×Nat=>[.fs (zI p.1) p.1.length,.int .i64 p.2.1,.int .i64 p.2.2]) (fun p=>p.1.length≤1000000∧(∀ r∈p.1,r.length≤1000000)∧∀ r∈p.1,∀ s∈r,s.length≤1000000) fun p=>.ret (.bool (matB p.1 p.2.1 p.2.2))
theorem zue:∀ args r,zzh args=some r→PCall Tryz.prog 48 args r:=zn fun p h=>zwE p.1 p.2.1 p.2.2 h.1 h.2.1 h.2.2
theorem zjf(m:List (List Str))(n w:Nat)(a b:Int)(ha:a=n)(hb:b=w)(h1:m.length≤1000000)(h2:∀ r∈m,r.length≤1000000)(h3:∀ r∈m,∀ s∈r,s.length≤1000000):zzh [.fs (zI m) m.length,.int .i64 a,.int .i64 b]=some (.ret (.bool (matB m n w))):=by
 subst ha hb;exact zo (pat:=fun p:List (List Str)×Nat×Nat=>[V.fs (zI p.1) p.1.length,.int .i64 p.2.1,.int .i64 p.2.2]) (fun x y h=>by
  obtain⟨x1,x2,x3⟩:=x;obtain⟨y1,y2,y3⟩:=y;simp only [List.cons.injEq,V.fs.injEq,V.int.injEq,and_true,true_and]at h;obtain⟨⟨e1,_⟩,e2,e3⟩:=h;have e2':x2=y2:=by omega
  have e3':x3=y3:=by omega
  rw [zb4 e1,e2',e3']) (m,n,w) ⟨h1,h2,h3⟩
noncomputable def cRIncr:List V→Option PR:=zB (fun l:List Str=>[.fs (strs l) l.length]) (fun l=>l.length≤1000000∧∀ s∈l,s.length≤1000000000000000) fun l=>.ret (.bool (zh5 l))
theorem zm0(l:List Str)(hl:l.length≤1000000)(hs:∀ s∈l,s.length≤1000000000000000):cRIncr [.fs (strs l) l.length]=some (.ret (.bool (zh5 l))):=
 zo (pat:=fun l:List Str=>[.fs (strs l) l.length]) (fun x y h=>by simp at h;exact zas h.1) l ⟨hl,hs⟩
theorem zy2:∀ args r,cRIncr args=some r→PCall Tryz.prog 47 args r:=zn fun l h=>rincr_ok l h.1 h.2
set_option maxHeartbeats 8000000 in
set_option maxRecDepth 100000 in
theorem zh1(m:Mdl)(h:Fit m):PCall Tryz.prog 23 [mdlV m] (.ret (.bool (vmB m))):=by
 have hΓ:=zg zy2 (zg zue zh);obtain⟨tl,wl,nl,el,ts,ws,nr,er,ns,es⟩:=h;obtain⟨T,W,N,E⟩:=m;dsimp only at tl wl nl el ts ws nr er ns es;have i1:=zm0 T (by omega) ts;have i2:=zm0 W (by omega) ws;have m1:=zjf N (T.length+1) (T.length+1) ((T.length:Int)+1) ((T.length:Int)+1) (by omega) (by omega) (by omega) nr ns;have m2:=zjf E T.length (W.length+1) (T.length:Int) ((W.length:Int)+1) rfl (by omega) (by omega) er es;have hv:vmB ⟨T,W,N,E⟩=(decide ((T.length:Int)≤40)&&decide ((W.length:Int)≤500)&&zh5 T&&zh5 W&&matB N (T.length+1) (T.length+1)&&matB E T.length (W.length+1)):=by have e1:decide ((T.length:Int)≤40)=decide (T.length≤40):=decide_eq_decide.2 (by omega);have e2:decide ((W.length:Int)≤500)=decide (W.length≤500):=decide_eq_decide.2 (by omega);simp only [vmB,e1,e2,zh5,List.all_append];cases decide (T.length≤40)<;>cases decide (W.length≤500)<;>cases incS T<;>cases incS W<;>cases T.all nameB<;>cases W.all nameB<;>simp
 rw [hv];refine PCall.walk (rs:=[.tmp 2]) [0,1,2] [] mixed (hΓ) (zf) call23 Tryz.func23 rfl Tryz.ntmps23 rfl (by kernel_rfl) (by simp) (by simp [push_cast,zb1]) ?_;simp (disch:=first|assumption|(push_cast<;>omega)|omega) only [go_sem,mdlV,i1,i2,m1,m2]
noncomputable def ΔV:FuncId→List V→Hp→Option AR:=zcT 105 (conD zlf) noΔ
theorem zlg:za5 Tryz.prog ΔV:=zaC (za1 zpz) zf
set_option maxHeartbeats 8000000 in
set_option maxRecDepth 100000 in
theorem zjv(m:Mdl)(h:Fit m):PCall Tryz.prog 64 [mdlV m] (.ret (.bool (vmB m))):=by
 have hΓ:=zg zzD (zg cName_ok (zg cRows_ok zh));obtain⟨tl,wl,nl,el,ts,ws,nr,er,ns,es⟩:=h;obtain⟨T,W,N,E⟩:=m;dsimp only at tl wl nl el ts ws nr er ns es;have m1:=zqS N (T.length+1) (T.length+1) ((T.length:Int)+1) ((T.length:Int)+1) (by omega) (by omega) (by omega) nr ns;have m2:=zqS E T.length (W.length+1) (T.length:Int) ((W.length:Int)+1) rfl (by omega) (by omega) er es;refine PCall.walk (rs:=[.tmp 2]) [0,1,2,3,4,6,30,36,37,38,39,44] [25] mixed (hΓ) (zlg) call64 Tryz.func64 rfl Tryz.ntmps64 rfl (by kernel_rfl) (by simp) (by simp [push_cast,zb1]) ?_;have hb:(decide (40<(T.length:Int))||decide (500<(W.length:Int))|| !incS T|| !incS W)= !(decide (T.length≤40)&&decide (W.length≤500)&&incS T&&incS W):=by
  have e1:decide (40<(T.length:Int))= !decide (T.length≤40):=by
   by_cases h:T.length≤40
   ·simp [h];omega
   ·simp [h];omega
  have e2:decide (500<(W.length:Int))= !decide (W.length≤500):=by
   by_cases h:W.length≤500
   ·simp [h];omega
   ·simp [h];omega
  rw [e1,e2];cases decide (T.length≤40)<;>cases decide (W.length≤500)<;>cases incS T<;>cases incS W<;>rfl
 have hv:vmB ⟨T,W,N,E⟩=((decide (T.length≤40)&&decide (W.length≤500)&&incS T&&incS W)&&((T++W).all nameB&&(matB N (T.length+1) (T.length+1)&&matB E T.length (W.length+1)))):=by simp only [vmB,Bool.and_assoc]
 rw [hv];simp (disch:=first|assumption|(push_cast<;>omega)|omega) only [go_sem,mdlV];rw [hb];cases h0:(decide (T.length≤40)&&decide (W.length≤500)&&incS T&&incS W)with
 |false=>simp (disch:=first|assumption|(push_cast<;>omega)|omega) only [go_sem]
 |true=>
  have hC:=zpA 0 T W [(0,.cells [.fs (strs T) T.length,.fs (strs W) W.length])] 1 rfl tl wl rfl;by_cases he:T.length+W.length=0
  ·rw [if_pos he]at hC;have hC':ΔV 105 [.sl 0 0 2 1 (some 2)] ⟨[(0,.cells [.fs (strs T) T.length,.fs (strs W) W.length])],1⟩=_:=hC;obtain rfl:T=[]:=List.eq_nil_of_length_eq_zero (by omega);obtain rfl:W=[]:=List.eq_nil_of_length_eq_zero (by omega);have hC2:ΔV 105 [.sl 0 0 2 1 (some 2)] ⟨[(0,.cells [.fs [] 0,.fs [] 0])],1⟩=some ⟨True,.nilS,⟨[(0,.cells [.fs [] 0,.fs [] 0])],1⟩,[0],[]⟩:=hC';have k1:cRows [.fs (zI N) N.length,.int .i64 1,.int .i64 1]=some (.ret (.bool (matB N 1 1))):=m1;have k2:cRows [.fs (zI E) E.length,.int .i64 0,.int .i64 1]=some (.ret (.bool (matB E 0 1))):=m2;simp (disch:=first|assumption|(push_cast<;>omega)|omega) only [go_sem,hC2];refine AXs.rounds mixed hΓ zlg [] (by kernel_rfl) ?_;simp (disch:=first|assumption|(push_cast<;>omega)|omega) only [go_sem];refine AXa.go mixed (hΓ) (zlg) (by kernel_rfl) ?_;simp (disch:=first|assumption|(push_cast<;>omega)|omega) only [go_sem,k1,k2]
  rw [if_neg he]at hC;have hC':ΔV 105 [.sl 0 0 2 1 (some 2)] ⟨[(0,.cells [.fs (strs T) T.length,.fs (strs W) W.length])],1⟩=_:=hC;have hlen:(T++W).length=T.length+W.length:=List.length_append;simp (disch:=first|assumption|(push_cast<;>omega)|omega) only [go_sem,hC',hlen];have hpm:∀ x∈[V.fs (strs T) T.length,.fs (strs W) W.length,.fs (zI N) N.length,.fs (zI E) E.length],Pure x:=fun x h=>by
   simp only [List.mem_cons,List.not_mem_nil,or_false]at h;rcases h with rfl|rfl|rfl|rfl
   ·exact .fs (zae _)
   ·exact .fs (zae _)
   ·exact .fs (zaQ _)
   ·exact .fs (zaQ _)
  generalize hA:T++W=A at*;refine AXs.loop mixed (hΓ) (zlg) (fun i:Nat=>[(1,.fp [.fs (strs T) T.length,.fs (strs W) W.length,.fs (zI N) N.length,.fs (zI E) E.length]),(3,.int .i64 T.length),(4,.int .i64 W.length),(36,.sl 1 0 (T.length+W.length) 1 none),(37,.int .i64 (T.length+W.length:Nat)),(38,.int .i64 i)]) (fun _=>⟨[(1,.cells (strs A))],2⟩) (fun i=>i≤A.length∧∀ j,j<i→nameB (A.getD j [])=true) (fun i=>A.length - i) 0 (by kernel_rfl) ⟨Nat.zero_le _,fun j hj=>by omega⟩ (Sub.of0 [] rfl rfl ?_ ?_) ?_
  ·simp only [go_sem];exact hpm
  ·simp only [go_sem]
  rintro i ⟨h1,h2⟩;simp (disch:=first|assumption|(push_cast<;>omega)|omega) only [go_sem];refine AXc.introP (fun h3=>?_) (fun h3=>?_)
  ·have hi:i<A.length:=by omega
   simp (disch:=first|assumption|(push_cast<;>omega)|omega) only [go_sem]
   (repeat refine sdC ?_);cases hn:nameB (A.getD i [])with
   |false=>
    simp (disch:=first|assumption|(push_cast<;>omega)|omega) only [go_sem];rw [zf7 hi hn];rfl
   |true=>
    simp (disch:=first|assumption|(push_cast<;>omega)|omega) only [go_sem];refine zk (i+1) ⟨by omega,fun j hj=>?_⟩ (by omega) (Sub.of0 [] rfl rfl ?_ ?_)
    ·by_cases hji:j<i
     ·exact h2 j hji
     ·obtain rfl:j=i:=by omega
      exact hn
    ·simp only [go_sem];refine⟨hpm,?_⟩;simp
    ·simp only [go_sem]
  ·have hi:i=A.length:=by omega
   rw [zf6 fun j hj=>h2 j (by omega)];simp (disch:=first|assumption|(push_cast<;>omega)|omega) only [go_sem];refine AXa.go mixed (hΓ) (zlg) (by kernel_rfl) ?_;simp (disch:=first|assumption|(push_cast<;>omega)|omega) only [go_sem,m1,m2]
end Go.Proofs

namespace Go.Proofs
open Go.Ab Go.Cnt Go.Pl
noncomputable def cTVM:List V→Option PR:=zB (fun m:Mdl=>[mdlV m]) (fun m=>Fit m) fun m=>.ret (.bool (vmB m))
theorem zyK(m:Mdl)(h:Fit m):cTVM [mdlV m]=some (.ret (.bool (vmB m))):=zo (pat:=fun m:Mdl=>[mdlV m]) (fun x y h=>zeg (by simpa using h)) m h
theorem zyJ:∀ args r,cTVM args=some r→PCall Tryz.prog 64 args r:=zn fun m h=>zjv m h
def zq(m:Mdl)(ws:List Str):List Nat:=ws.map (idxS m.words)
def slN(b:Nat)(l:List Nat):V:=if l=[]then .nilS else .sl b 0 l.length 1 none
def blkN(b:Nat)(l:List Nat)(r:List (Nat×Blk)):List (Nat×Blk):=if l=[]then r else(b,.cells (nats .i64 l))::r
theorem znO(b:Nat):slN b []=.nilS:=rfl
theorem zk4(b:Nat)(r:List (Nat×Blk)):blkN b [] r=r:=rfl
theorem zpU(b:Nat){l:List Nat}(h:l≠[]):slN b l=.sl b 0 l.length 1 none:=if_neg h
theorem zk5(b:Nat){l:List Nat}(h:l≠[])(r:List (Nat×Blk)):blkN b l r=(b,.cells (nats .i64 l))::r:=if_neg h
theorem ziC(m:Mdl)(ws:List Str):(!vmB m||decide (200<(ws.length:Int))|| !ws.all nameB)= !(vmB m&&zbq ws):=by
 have e:decide (200<(ws.length:Int))= !decide (ws.length≤200):=by
  by_cases h:ws.length≤200
  ·rw [decide_eq_true h,decide_eq_false (by omega)];rfl
  ·rw [decide_eq_false h,decide_eq_true (by omega)];rfl
 unfold zbq;rw [e];cases vmB m<;>cases ws.all nameB<;>cases decide (ws.length≤200)<;>rfl
theorem zo0(m:Mdl)(ws:List Str)(i:Nat)(h:i<ws.length):zq m (ws.take (i+1))=zq m (ws.take i)++[idxS m.words (ws.getD i [])]:=by unfold zq;rw [List.take_add_one,List.getElem?_eq_getElem h,List.getD_eq_getElem?_getD,List.getElem?_eq_getElem h,List.map_append];rfl
theorem ztF(m:Mdl)(ws:List Str)(i:Nat)(h:i≤ws.length):(zq m (ws.take i)).length=i:=by unfold zq;simp;omega
theorem mdl4(T W:List Str)(N E:List (List Str)):∀ x∈[V.fs (strs T) T.length,.fs (strs W) W.length,.fs (zI N) N.length,.fs (zI E) E.length],Pure x:=fun x h=>by
 simp only [List.mem_cons,List.not_mem_nil,or_false]at h;rcases h with rfl|rfl|rfl|rfl
 ·exact .fs (zae _)
 ·exact .fs (zae _)
 ·exact .fs (zaQ _)
 ·exact .fs (zaQ _)
theorem mdl4P(T W:List Str)(N E:List (List Str)):(∀ x∈[V.fs (strs T) T.length,.fs (strs W) W.length,.fs (zI N) N.length,.fs (zI E) E.length],Pure x)↔True:=⟨fun _=>trivial,fun _=>mdl4 T W N E⟩
attribute [go_sem] mdl4P
set_option maxHeartbeats 8000000 in
set_option maxRecDepth 100000 in
theorem zvh(m:Mdl)(ws:List Str)(hf:Fit m)(hw:ws.length≤1000000)(hb:(vmB m&&zbq ws)=false):NCall Tryz.prog 33 [mdlV m,.fs (strs ws) ws.length] [] [] (.tup [.nilP,.int .i64 1]) ⟨[],0⟩:=by
 have hΓ:=zg zyJ (zg zzH (zg zm5 zh));have p1:=zyK m hf;have sc:=ziC m ws;obtain⟨T,W,N,E⟩:=m;unfold mdlV at p1 ⊢;dsimp only at p1 ⊢;rw [hb]at sc;refine NCall.walk (rs:=[.tmp 4,.tmp 5]) [0,1,2,4,5,6,8,20,24,25,26,27] [25] 0 mixed (hΓ) (zf) call33 Tryz.func33 rfl Tryz.ntmps33 rfl (by kernel_rfl) (by simp) (by simp) (by simp) ?_;simp (disch:=first|assumption|(push_cast<;>omega)|omega) only [go_sem,p1];rw [sc];simp (disch:=first|assumption|(push_cast<;>omega)|omega) only [go_sem];exact⟨[(4,.nilP),(5,.int .i64 1)],Sub.of [] rfl (by simp only [go_sem]) (by simp only [go_sem]) (by decide) (fun b hb _=>absurd hb (Nat.not_lt_zero b)),rfl⟩
set_option maxHeartbeats 8000000 in
set_option maxRecDepth 100000 in
theorem start_N(m:Mdl)(ws:List Str)(hf:Fit m)(hw:ws.length≤1000000)(hv:vmB m=true)(hb:zbq ws=true):NCall Tryz.prog 33 [mdlV m,.fs (strs ws) ws.length] [] [] (.tup [.ptr 0 0,.int .i64 0]) ⟨[(0,.cells (runC ⟨m,zq m ws,0⟩))],1⟩:=by
 have hΓ:=zg zyJ (zg zzH (zg zm5 zh));have p1:=zyK m hf;have sc:(!vmB m||decide (200<(ws.length:Int))|| !ws.all nameB)=false:=by rw [ziC,hv,hb];rfl
 have hi:incS m.words=true:=by unfold vmB at hv;simp only [Bool.and_eq_true]at hv;exact hv.2.2.2.1
 have hwl:=hf.wl;have ct:=zo0 m ws;have cl:=ztF m ws;obtain⟨T,W,N,E⟩:=m;unfold mdlV at p1 ⊢;dsimp only at p1 hi ct hwl ⊢;refine NCall.walk (rs:=[.tmp 4,.tmp 5]) [0,1,2,4,5,6,8,20,24,25,26,27] [25] 0 mixed (hΓ) (zf) call33 Tryz.func33 rfl Tryz.ntmps33 rfl (by kernel_rfl) (by simp) (by simp) (by simp) ?_;simp (disch:=first|assumption|(push_cast<;>omega)|omega) only [go_sem,p1];rw [sc];simp (disch:=first|assumption|(push_cast<;>omega)|omega) only [go_sem];obtain⟨M,hM⟩:∃ M,M=(⟨T,W,N,E⟩:Mdl):=⟨_,rfl⟩;rw [←hM]at ct cl ⊢;refine AXs.loop mixed (hΓ) (zf) (fun i:Nat=>[(2,.fp [.fs (strs T) T.length,.fs (strs W) W.length,.fs (zI N) N.length,.fs (zI E) E.length]),(6,.ptr 0 0),(24,.fs (strs ws) ws.length),(25,.int .i64 ws.length),(26,.int .i64 i)])
  (fun i=>⟨blkN 1 (zq M (ws.take i)) [(0,.cells [.fs (strs T) T.length,.fs (strs W) W.length,.fs (zI N) N.length,.fs (zI E) E.length,slN 1 (zq M (ws.take i)),.int .i64 0])],2⟩) (fun i=>i≤ws.length) (fun i=>ws.length - i) 0 (by kernel_rfl) (Nat.zero_le _) (Sub.of0 [(0,0)] rfl rfl ?_ ?_) ?_
 ·simp only [go_sem]
 ·rw [List.take_zero,show zq M []=[]from rfl];simp only [go_sem,zk4,znO]
 intro i h1;have cli:=cl i h1;simp (disch:=first|assumption|(push_cast<;>omega)|omega) only [go_sem];refine AXc.introP (fun h2=>?_) (fun h2=>?_)
 ·have hil:i<ws.length:=by omega
  have cti:=ct i hil;generalize zq M (ws.take i)=acc at cti cli ⊢;by_cases ne:acc=[]
  ·subst ne;have i0:i=0:=cli.symm;have nn:[idxS W (ws.getD i [])]≠[]:=by simp
   rw [List.nil_append]at cti;simp (disch:=first|assumption|(push_cast<;>omega)|omega) only [go_sem,znO,zk4]
   (repeat refine sdC ?_);simp (disch:=first|assumption|(push_cast<;>omega)|omega) only [go_sem];refine zk (i+1) (by omega) (by omega) ?_;rw [cti,zpU 1 nn,zk5 1 nn];refine Sub.of0 [(0,0),(1,3)] rfl rfl ?_ ?_
   ·simp only [go_sem];simp
   ·simp only [go_sem];rfl
  ·have nn:acc++[idxS W (ws.getD i [])]≠[]:=by simp
   have nl:(acc++[idxS W (ws.getD i [])]).length=acc.length+1:=by simp
   have tk:List.take acc.length acc=acc:=List.take_length;simp (disch:=first|assumption|(push_cast<;>omega)|omega) only [go_sem,zpU 1 ne,zk5 1 ne]
   (repeat refine sdC ?_);simp (disch:=first|assumption|(push_cast<;>omega)|omega) only [go_sem];refine zk (i+1) (by omega) (by omega) ?_;rw [cti,zpU 1 nn,zk5 1 nn,nl];refine Sub.of0 [(0,0),(1,3)] rfl rfl ?_ ?_
   ·simp only [go_sem];simp
   ·simp only [go_sem,tk]
 ·obtain rfl:i=ws.length:=by omega
  rw [List.take_length]at cli ⊢;subst hM;simp (disch:=first|assumption|(push_cast<;>omega)|omega) only [go_sem];by_cases ne:zq ⟨T,W,N,E⟩ ws=[]
  ·rw [ne,znO,zk4];refine AXa.go mixed (hΓ) (zf) (by kernel_rfl) ?_;simp (disch:=first|assumption|(push_cast<;>omega)|omega) only [go_sem];refine⟨[(4,.ptr 0 0),(5,.int .i64 0)],Sub.of [(0,0)] rfl ?_ ?_ (by decide) (fun b hb _=>absurd hb (Nat.not_lt_zero b)),rfl⟩
   ·simp only [go_sem]
   ·unfold runC;simp only [go_sem]
  ·rw [zpU 1 ne,zk5 1 ne];refine AXa.fz2 [1] [(0,runC ⟨⟨T,W,N,E⟩,zq ⟨T,W,N,E⟩ ws,0⟩)] (env':=[(6,.ptr 0 0)]) (n':=1) rfl rfl rfl ?_ ?_ ?_
   ·simp only [go_sem];exact .inl ⟨by simp,rfl⟩
   ·exact⟨⟨by decide,by simp,.inl (.same (.fs (zae _))),.inl (.same (.fs (zae _))),.inl (.same (.fs (zaQ _))),.inl (.same (.fs (zaQ _))),.inr (FrzF.slp (by simp) rfl rfl (by simp [nats]) (by rw [List.drop_zero,Nat.mul_one];exact(List.take_of_length_le (by simp [nats])).symm) (zU _ _)),.inl (.same (.int _ _)),trivial⟩,trivial⟩
   change AXa _ _ _ _ _ _ ⟨[(0,.cells (runC ⟨⟨T,W,N,E⟩,zq ⟨T,W,N,E⟩ ws,0⟩))],1⟩;refine AXa.go mixed (hΓ) (zf) (by kernel_rfl) ?_;simp (disch:=first|assumption|(push_cast<;>omega)|omega) only [go_sem];refine⟨[(4,.ptr 0 0),(5,.int .i64 0)],Sub.of [(0,0)] rfl ?_ ?_ (by decide) (fun b hb _=>absurd hb (Nat.not_lt_zero b)),rfl⟩
   ·simp only [go_sem]
   ·simp only [go_sem]
def zAG(args:List V)(H:Hp)(r:AR):Prop:=∃ m ws,args=[mdlV m,.fs (strs ws) ws.length]∧Fit m∧ws.length≤1000000∧(∀ b x,H.get b=some x→b<H.next)∧
 r=if (vmB m&&zbq ws)=true then⟨True,.tup [.ptr H.next 0,.int .i64 0],⟨(H.next,.cells (runC ⟨m,zq m ws,0⟩))::H.bs,H.next+1⟩,[],[]⟩else⟨True,.tup [.nilP,.int .i64 1],H,[],[]⟩
theorem zvi:∀ args H r,zAG args H r→HCall Tryz.prog 33 args H r:=by
 rintro args H r ⟨m,ws,rfl,hf,hw,hk,rfl⟩;have ha:∀ x∈[mdlV m,.fs (strs ws) ws.length],Pure x:=fun x hx=>by
  simp only [List.mem_cons,List.not_mem_nil,or_false]at hx;rcases hx with rfl|rfl
  ·exact zb1 m
  ·exact .fs (zae _)
 cases h:(vmB m&&zbq ws)with
 |true=>rw [if_pos rfl];simp only [Bool.and_eq_true]at h;exact HCall.freshP (start_N m ws hf hw h.1 h.2) (zbi _) (.int _ _) ha H hk
 |false=>
  rw [if_neg (by simp)];refine HCall.plain (zvh m ws hf hw h) (.tup fun x hx=>?_) ha H hk;simp only [List.mem_cons,List.not_mem_nil,or_false]at hx;rcases hx with rfl|rfl
  ·exact .nilP
  ·exact .int _ _
theorem zvj(m:Mdl)(ws:List Str)(hf:Fit m)(hw:ws.length≤1000000):conD zAG [mdlV m,.fs (strs ws) ws.length] ⟨[],0⟩=
 some (if (vmB m&&zbq ws)=true then⟨True,.tup [.ptr 0 0,.int .i64 0],⟨[(0,.cells (runC ⟨m,zq m ws,0⟩))],1⟩,[],[]⟩else⟨True,.tup [.nilP,.int .i64 1],⟨[],0⟩,[],[]⟩):=by
 refine zaI ⟨m,ws,rfl,hf,hw,(fun b x h=>by cases h),rfl⟩ fun r' ⟨m',ws',e,_,_,_,e'⟩=>?_
 simp only [List.cons.injEq,V.fs.injEq,and_true]at e
 rw [e', ←zeg e.1, ←zas e.2.1]
end Go.Proofs
