/- start: a run, or an error. -/
import Derived.Test.YthbimeikbkjnkaaGreatDoorT2
import Derived.Test.YthbimeikbkjnkaaGreatDoorQRat6
set_option linter.all false
namespace Go.Proofs
open Go.Ab Go.Cnt Go.Pl
noncomputable def cTVM:List V→Option PR:=zu (fun m:Mdl=>[mdlV m]) (fun m=>Fit m) fun m=>.ret (.bool (vmB m))
theorem zwB(m:Mdl)(h:Fit m):cTVM [mdlV m]=some (.ret (.bool (vmB m))):=zn (pat:=fun m:Mdl=>[mdlV m]) (fun x y h=>zc6 (by simpa using h)) m h
theorem zwA:∀ args r,cTVM args=some r→PCall Tryz.prog 64 args r:=zk fun m h=>ziS m h
def zH(m:Mdl)(ws:List Str):List Nat:=ws.map (idxS m.words)
def slN(b:Nat)(l:List Nat):V:=if l=[]then .nilS else .sl b 0 l.length 1 none
def blkN(b:Nat)(l:List Nat)(r:List (Nat×Blk)):List (Nat×Blk):=if l=[]then r else(b,.cells (nats .i64 l))::r
theorem ze3(b:Nat):slN b []=.nilS:=rfl
theorem zd6(b:Nat)(r:List (Nat×Blk)):blkN b [] r=r:=rfl
theorem zfw(b:Nat){l:List Nat}(h:l≠[]):slN b l=.sl b 0 l.length 1 none:=if_neg h
theorem zdS(b:Nat){l:List Nat}(h:l≠[])(r:List (Nat×Blk)):blkN b l r=(b,.cells (nats .i64 l))::r:=if_neg h
theorem zh3(m:Mdl)(ws:List Str):(!vmB m||decide (200<(ws.length:Int))|| !ws.all nameB)= !(vmB m&&zby ws):=by
 have e:decide (200<(ws.length:Int))= !decide (ws.length≤200):=by
  by_cases h:ws.length≤200
  ·rw [decide_eq_true h,decide_eq_false (by omega)];rfl
  ·rw [decide_eq_false h,decide_eq_true (by omega)];rfl
 unfold zby;rw [e];cases vmB m<;>cases ws.all nameB<;>cases decide (ws.length≤200)<;>rfl
theorem znN(m:Mdl)(ws:List Str)(i:Nat)(h:i<ws.length):zH m (ws.take (i+1))=zH m (ws.take i)++[idxS m.words (ws.getD i [])]:=by unfold zH;rw [List.take_add_one,List.getElem?_eq_getElem h,List.getD_eq_getElem?_getD,List.getElem?_eq_getElem h,List.map_append];rfl
theorem zrZ(m:Mdl)(ws:List Str)(i:Nat)(h:i≤ws.length):(zH m (ws.take i)).length=i:=by unfold zH;simp;omega
theorem mdl4(T W:List Str)(N E:List (List Str)):∀ x∈[V.fs (strs T) T.length,.fs (strs W) W.length,.fs (zI N) N.length,.fs (zI E) E.length],Pure x:=fun x h=>by
 simp only [List.mem_cons,List.not_mem_nil,or_false]at h;rcases h with rfl|rfl|rfl|rfl
 ·exact .fs (zai _)
 ·exact .fs (zai _)
 ·exact .fs (zaK _)
 ·exact .fs (zaK _)
theorem mdl4P(T W:List Str)(N E:List (List Str)):(∀ x∈[V.fs (strs T) T.length,.fs (strs W) W.length,.fs (zI N) N.length,.fs (zI E) E.length],Pure x)↔True:=⟨fun _=>trivial,fun _=>mdl4 T W N E⟩
attribute [go_sem] mdl4P
set_option maxHeartbeats 8000000 in
set_option maxRecDepth 100000 in
theorem ztu(m:Mdl)(ws:List Str)(hf:Fit m)(hw:ws.length≤1000000)(hb:(vmB m&&zby ws)=false):NCall Tryz.prog 33 [mdlV m,.fs (strs ws) ws.length] [] [] (.tup [.nilP,.int .i64 1]) ⟨[],0⟩:=by
 have hΓ:=zf zwA (zf zxx (zf zhg zh));have p1:=zwB m hf;have sc:=zh3 m ws;obtain⟨T,W,N,E⟩:=m;unfold mdlV at p1 ⊢;dsimp only at p1 ⊢;rw [hb]at sc;refine NCall.walk (rs:=[.tmp 4,.tmp 5]) [0,1,2,4,5,6,8,20,24,25,26,27] [25] 0 mixed (hΓ) (zg) call33 Tryz.func33 rfl Tryz.ntmps33 rfl (by kernel_rfl) (by simp) (by simp) (by simp) ?_;simp (disch:=first|assumption|(push_cast<;>omega)|omega) only [go_sem,p1];rw [sc];simp (disch:=first|assumption|(push_cast<;>omega)|omega) only [go_sem];exact⟨[(4,.nilP),(5,.int .i64 1)],Sub.of [] rfl (by simp only [go_sem]) (by simp only [go_sem]) (by decide) (fun b hb _=>absurd hb (Nat.not_lt_zero b)),rfl⟩
set_option maxHeartbeats 8000000 in
set_option maxRecDepth 100000 in
theorem start_N(m:Mdl)(ws:List Str)(hf:Fit m)(hw:ws.length≤1000000)(hv:vmB m=true)(hb:zby ws=true):NCall Tryz.prog 33 [mdlV m,.fs (strs ws) ws.length] [] [] (.tup [.ptr 0 0,.int .i64 0]) ⟨[(0,.cells (runC ⟨m,zH m ws,0⟩))],1⟩:=by
 have hΓ:=zf zwA (zf zxx (zf zhg zh));have p1:=zwB m hf;have sc:(!vmB m||decide (200<(ws.length:Int))|| !ws.all nameB)=false:=by rw [zh3,hv,hb];rfl
 have hi:incS m.words=true:=by unfold vmB at hv;simp only [Bool.and_eq_true]at hv;exact hv.2.2.2.1
 have hwl:=hf.wl;have ct:=znN m ws;have cl:=zrZ m ws;obtain⟨T,W,N,E⟩:=m;unfold mdlV at p1 ⊢;dsimp only at p1 hi ct hwl ⊢;refine NCall.walk (rs:=[.tmp 4,.tmp 5]) [0,1,2,4,5,6,8,20,24,25,26,27] [25] 0 mixed (hΓ) (zg) call33 Tryz.func33 rfl Tryz.ntmps33 rfl (by kernel_rfl) (by simp) (by simp) (by simp) ?_;simp (disch:=first|assumption|(push_cast<;>omega)|omega) only [go_sem,p1];rw [sc];simp (disch:=first|assumption|(push_cast<;>omega)|omega) only [go_sem];obtain⟨M,hM⟩:∃ M,M=(⟨T,W,N,E⟩:Mdl):=⟨_,rfl⟩;rw [←hM]at ct cl ⊢;refine AXs.loop mixed (hΓ) (zg) (fun i:Nat=>[(2,.fp [.fs (strs T) T.length,.fs (strs W) W.length,.fs (zI N) N.length,.fs (zI E) E.length]),(6,.ptr 0 0),(24,.fs (strs ws) ws.length),(25,.int .i64 ws.length),(26,.int .i64 i)])
  (fun i=>⟨blkN 1 (zH M (ws.take i)) [(0,.cells [.fs (strs T) T.length,.fs (strs W) W.length,.fs (zI N) N.length,.fs (zI E) E.length,slN 1 (zH M (ws.take i)),.int .i64 0])],2⟩) (fun i=>i≤ws.length) (fun i=>ws.length - i) 0 (by kernel_rfl) (Nat.zero_le _) (Sub.of0 [(0,0)] rfl rfl ?_ ?_) ?_
 ·simp only [go_sem]
 ·rw [List.take_zero,show zH M []=[]from rfl];simp only [go_sem,zd6,ze3]
 intro i h1;have cli:=cl i h1;simp (disch:=first|assumption|(push_cast<;>omega)|omega) only [go_sem];refine AXc.introP (fun h2=>?_) (fun h2=>?_)
 ·have hil:i<ws.length:=by omega
  have cti:=ct i hil;generalize zH M (ws.take i)=acc at cti cli ⊢;by_cases ne:acc=[]
  ·subst ne;have i0:i=0:=cli.symm;have nn:[idxS W (ws.getD i [])]≠[]:=by simp
   rw [List.nil_append]at cti;simp (disch:=first|assumption|(push_cast<;>omega)|omega) only [go_sem,ze3,zd6]
   (repeat refine sdC ?_);simp (disch:=first|assumption|(push_cast<;>omega)|omega) only [go_sem];refine zo (i+1) (by omega) (by omega) ?_;rw [cti,zfw 1 nn,zdS 1 nn];refine Sub.of0 [(0,0),(1,3)] rfl rfl ?_ ?_
   ·simp only [go_sem];simp
   ·simp only [go_sem];rfl
  ·have nn:acc++[idxS W (ws.getD i [])]≠[]:=by simp
   have nl:(acc++[idxS W (ws.getD i [])]).length=acc.length+1:=by simp
   have tk:List.take acc.length acc=acc:=List.take_length;simp (disch:=first|assumption|(push_cast<;>omega)|omega) only [go_sem,zfw 1 ne,zdS 1 ne]
   (repeat refine sdC ?_);simp (disch:=first|assumption|(push_cast<;>omega)|omega) only [go_sem];refine zo (i+1) (by omega) (by omega) ?_;rw [cti,zfw 1 nn,zdS 1 nn,nl];refine Sub.of0 [(0,0),(1,3)] rfl rfl ?_ ?_
   ·simp only [go_sem];simp
   ·simp only [go_sem,tk]
 ·obtain rfl:i=ws.length:=by omega
  rw [List.take_length]at cli ⊢;subst hM;simp (disch:=first|assumption|(push_cast<;>omega)|omega) only [go_sem];by_cases ne:zH ⟨T,W,N,E⟩ ws=[]
  ·rw [ne,ze3,zd6];refine AXa.go mixed (hΓ) (zg) (by kernel_rfl) ?_;simp (disch:=first|assumption|(push_cast<;>omega)|omega) only [go_sem];refine⟨[(4,.ptr 0 0),(5,.int .i64 0)],Sub.of [(0,0)] rfl ?_ ?_ (by decide) (fun b hb _=>absurd hb (Nat.not_lt_zero b)),rfl⟩
   ·simp only [go_sem]
   ·unfold runC;simp only [go_sem]
  ·rw [zfw 1 ne,zdS 1 ne];refine AXa.fz2 [1] [(0,runC ⟨⟨T,W,N,E⟩,zH ⟨T,W,N,E⟩ ws,0⟩)] (env':=[(6,.ptr 0 0)]) (n':=1) rfl rfl rfl ?_ ?_ ?_
   ·simp only [go_sem];exact .inl ⟨by simp,rfl⟩
   ·exact⟨⟨by decide,by simp,.inl (.same (.fs (zai _))),.inl (.same (.fs (zai _))),.inl (.same (.fs (zaK _))),.inl (.same (.fs (zaK _))),.inr (FrzF.slp (by simp) rfl rfl (by simp [nats]) (by rw [List.drop_zero,Nat.mul_one];exact(List.take_of_length_le (by simp [nats])).symm) (zal _ _)),.inl (.same (.int _ _)),trivial⟩,trivial⟩
   change AXa _ _ _ _ _ _ ⟨[(0,.cells (runC ⟨⟨T,W,N,E⟩,zH ⟨T,W,N,E⟩ ws,0⟩))],1⟩;refine AXa.go mixed (hΓ) (zg) (by kernel_rfl) ?_;simp (disch:=first|assumption|(push_cast<;>omega)|omega) only [go_sem];refine⟨[(4,.ptr 0 0),(5,.int .i64 0)],Sub.of [(0,0)] rfl ?_ ?_ (by decide) (fun b hb _=>absurd hb (Nat.not_lt_zero b)),rfl⟩
   ·simp only [go_sem]
   ·simp only [go_sem]
def zyo(args:List V)(H:Hp)(r:AR):Prop:=∃ m ws,args=[mdlV m,.fs (strs ws) ws.length]∧Fit m∧ws.length≤1000000∧(∀ b x,H.get b=some x→b<H.next)∧
 r=if (vmB m&&zby ws)=true then⟨True,.tup [.ptr H.next 0,.int .i64 0],⟨(H.next,.cells (runC ⟨m,zH m ws,0⟩))::H.bs,H.next+1⟩,[],[]⟩else⟨True,.tup [.nilP,.int .i64 1],H,[],[]⟩
theorem ztv:∀ args H r,zyo args H r→HCall Tryz.prog 33 args H r:=by
 rintro args H r ⟨m,ws,rfl,hf,hw,hk,rfl⟩;have ha:∀ x∈[mdlV m,.fs (strs ws) ws.length],Pure x:=fun x hx=>by
  simp only [List.mem_cons,List.not_mem_nil,or_false]at hx;rcases hx with rfl|rfl
  ·exact zbQ m
  ·exact .fs (zai _)
 cases h:(vmB m&&zby ws)with
 |true=>rw [if_pos rfl];simp only [Bool.and_eq_true]at h;exact HCall.freshP (start_N m ws hf hw h.1 h.2) (zdz _) (.int _ _) ha H hk
 |false=>
  rw [if_neg (by simp)];refine HCall.plain (ztu m ws hf hw h) (.tup fun x hx=>?_) ha H hk;simp only [List.mem_cons,List.not_mem_nil,or_false]at hx;rcases hx with rfl|rfl
  ·exact .nilP
  ·exact .int _ _
theorem ztw(m:Mdl)(ws:List Str)(hf:Fit m)(hw:ws.length≤1000000):conD zyo [mdlV m,.fs (strs ws) ws.length] ⟨[],0⟩=
 some (if (vmB m&&zby ws)=true then⟨True,.tup [.ptr 0 0,.int .i64 0],⟨[(0,.cells (runC ⟨m,zH m ws,0⟩))],1⟩,[],[]⟩else⟨True,.tup [.nilP,.int .i64 1],⟨[],0⟩,[],[]⟩):=by
 refine zaZ ⟨m,ws,rfl,hf,hw,(fun b x h=>by cases h),rfl⟩ fun r' ⟨m',ws',e,_,_,_,e'⟩=>?_
 simp only [List.cons.injEq,V.fs.injEq,and_true]at e
 rw [e', ←zc6 e.1, ←zao e.2.1]
noncomputable def ΔR:FuncId→List V→Hp→Option AR:=zdK 33 (conD zyo) (zdK 34 (conD (MethR mEnds)) (zdK 36 (conD (MethW zuQ)) noΔ))
theorem zoq:zbc Tryz.prog ΔR:=zaT (zbq ztv) (zaT (zbq (methR_ok mEnds fun _ r h=>ends_N r h)) (zaT (zbq (zoP zuQ fun x r h=>times_N r x.1 x.2 h.1 h.2)) zg))
theorem zor(b:Nat)(r:Run)(bs:List (Nat×Blk))(n:Nat)(h:r.m.tags.length≤1000000)(hb:zbd bs b=some (.cells (runC r)))(hk:((keysB bs).all fun b=>decide (b<n))=true):
 ΔR 34 [.ptr b 0] ⟨bs,n⟩=some ⟨True,.int .i64 r.m.tags.length,⟨bs,n⟩,[b],[]⟩:=methR_eq mEnds (x:=()) (s:=r) h hb hk
theorem zgc(b:Nat)(r:Run)(p q:Str)(bs:List (Nat×Blk))(n:Nat)(lp:p.length≤1000000000)(lq:q.length≤1000000000)(hb:zbd bs b=some (.cells (runC r)))(hk:((keysB bs).all fun b=>decide (b<n))=true):
 ΔR 36 [.ptr b 0,.str p,.str q] ⟨bs,n⟩=some ⟨True,.str (tm r.f p q).1,(⟨bs,n⟩:Hp).put b (.cells (runC ⟨r.m,r.cs,(tm r.f p q).2⟩)),[b],[b]⟩:=zoQ zuQ (x:=(p,q)) (s:=r) ⟨lp,lq⟩ hb hk
end Go.Proofs

namespace Go.Tg
def lexLt:List Nat→List Nat→Bool
 |[],[]=>false
 |[],_::_=>true
 |_::_,[]=>false
 |x::a,y::b=>decide (x<y)||(decide (x=y)&&lexLt a b)
abbrev Cand:=Nat×List Nat
def better(x y:Cand):Cand:=if x.1<y.1∨(x.1=y.1∧y.1≠0∧lexLt y.2 x.2=true)then y else x
def stp(x:Cand)(w:Nat)(j:List Nat):Cand:=if x.1*w=0 then(0,[])else(x.1*w,x.2++j)
structure Best(S:Nat→List Nat→Prop)(x:Cand):Prop where
 z:x.1=0→x.2=[]
 i:x.1≠0→S x.1 x.2
 b:∀ w L,S w L→w≤x.1∧(w=x.1→x.1≠0→lexLt L x.2=false)
section
variable(n:Nat)(a:Nat→Nat→Nat→Nat)(b:Nat→Nat)
def src(t:Nat):List Nat:=if t=0 then [n]else List.range n
def fw:Nat→Nat→Cand
 |0,_=>(1,[])
 |t+1,j=>(src n t).foldl (fun v i=>better v (stp (fw t i) (a t i j) [j])) (0,[])
def fin(T:Nat):Cand:=(src n T).foldl (fun v i=>better v (stp (fw n a T i) (b i) [])) (0,[])
def lastOf(L:List Nat)(k:Nat):Nat:=if k=0 then n else L.getD (k - 1) 0
def pw(L:List Nat):Nat→Nat
 |0=>1
 |k+1=>pw L k*a k (lastOf n L k) (L.getD k 0)
def LL:Nat→List (List Nat)
 |0=>[[]]
 |t+1=>(LL t).flatMap fun l=>(List.range n).map fun j=>l++[j]
theorem LL_len:∀ t,∀ l∈LL n t,l.length=t
 |0,l,h=>by simp [LL]at h;simp [h]
 |t+1,l,h=>by simp only [LL,List.mem_flatMap,List.mem_map,List.mem_range]at h;obtain⟨l',h1,j,_,rfl⟩:=h;simp [LL_len t l' h1]
theorem LL_mem:∀ t,∀ l∈LL n t,∀ x∈l,x<n
 |0,l,h,x,hx=>by simp [LL]at h;simp [h]at hx
 |t+1,l,h,x,hx=>by
  simp only [LL,List.mem_flatMap,List.mem_map,List.mem_range]at h;obtain⟨l',h1,j,hj,rfl⟩:=h;rcases List.mem_append.1 hx with hx|hx
  ·exact LL_mem t l' h1 x hx
  ·rw [List.mem_singleton.1 hx];exact hj
def all(w:List Nat→Nat)(l:List (List Nat)):Cand:=l.foldl (fun m L=>if m.1<w L then(w L,L)else m) (0,[])
end
end Go.Tg

namespace Go.Proofs
open Go.Ab Go.Cnt Go.Pl Go.Tg
def nx(m:Mdl)(i j:Nat):Str:=(nthR m.next i).getD j []
def em(m:Mdl)(j c:Nat):Str:=(nthR m.emit j).getD c []
section
variable {β:Type}(st:Int→β→List Nat→Str→β×Int)(pl:Int→β→β→β×Int)(m:Mdl)(none first:β)
def one(f:Int)(v u:β)(j:List Nat)(a b:Str):β×Int:=pl (st (tm f a b).2 u j (tm f a b).1).2 v (st (tm f a b).2 u j (tm f a b).1).1
end
structure Nums(m:Mdl)(cs:List Nat)(N:Nat→Nat→Nat→Nat)(E:Nat→Nat→Nat)(b:Nat→Nat)(DN DE:Nat→Nat)(Df:Nat):Prop where
 n:∀ t i j,t<cs.length→i∈src m.tags.length t→j<m.tags.length→Is (nx m i j) (N t i j) (DN t)∧N t i j≤DN t
 e:∀ t j,t<cs.length→j<m.tags.length→Is (em m j (cs.getD t 0)) (E t j) (DE t)∧E t j≤DE t
 f:∀ i,i∈src m.tags.length cs.length→Is (nx m i m.tags.length) (b i) Df∧b i≤Df
 pn:∀ t,0<DN t
 pe:∀ t,0<DE t
 pf:0<Df
section
variable {m:Mdl}{cs:List Nat}{N:Nat→Nat→Nat→Nat}{E:Nat→Nat→Nat}{b:Nat→Nat}{DN DE:Nat→Nat}{Df:Nat}
end
end Go.Proofs

namespace Go.Proofs
open Go.Ab Go.Cnt Go.Pl Go.Tg
def zkT(m:Mdl)(cs js:List Nat)(k:Nat):Str×Int:=pmul (nx m (lastOf m.tags.length js k) (js.getD k 0)) (em m (js.getD k 0) (cs.getD k 0))
def prR(m:Mdl)(cs js:List Nat):Nat→Str×Int
 |0=>([49],0)
 |k+1=>if (prR m cs js k).2≠0 then([],(prR m cs js k).2)else if (zkT m cs js k).2≠0 then([],(zkT m cs js k).2)else pmul (prR m cs js k).1 (zkT m cs js k).1
def prob(m:Mdl)(cs js:List Nat):Str×Int:=if (prR m cs js cs.length).2≠0 then([],(prR m cs js cs.length).2)else pmul (prR m cs js cs.length).1 (nx m (lastOf m.tags.length js cs.length) m.tags.length)
section
variable {m:Mdl}{cs:List Nat}{N:Nat→Nat→Nat→Nat}{E:Nat→Nat→Nat}{b:Nat→Nat}{DN DE:Nat→Nat}{Df:Nat}
theorem getD_lt {L:List Nat}{T k:Nat}(hL:L∈LL m.tags.length T)(hk:k<T):L.getD k 0<m.tags.length:=by have hl:=LL_len _ _ _ hL;refine LL_mem _ _ _ hL _ ?_;rw [List.getD_eq_getElem?_getD,List.getElem?_eq_getElem (by omega)];exact List.getElem_mem _
end
def zfx(l:List (List Str)):Bool:=l.all fun r=>r.all fun s=>decide (s.countP (· ≠47)≤4)
def zgx(m:Mdl)(ws:List Str):Bool:=decide (m.tags.length≤3)&&decide (ws.length≤4)&&(zfx m.next&&zfx m.emit)
theorem zs5 {m:Mdl}(h:vmB m=true):matB m.next (m.tags.length+1) (m.tags.length+1)=true∧matB m.emit m.tags.length (m.words.length+1)=true:=by unfold vmB at h;simp only [Bool.and_eq_true]at h;exact⟨h.2.2.2.2.2.1,h.2.2.2.2.2.2⟩
end Go.Proofs

namespace Go.Proofs
open Go.Ab Go.Cnt Go.Pl Go.Tg
def zaH(m:Mdl)(tgs:List Str):List Nat:=tgs.map (idxS m.tags)
def scA(m:Mdl)(js:List Nat)(k:Nat):Str:=nx m (lastOf m.tags.length js k) (js.getD k 0)
def scB(m:Mdl)(cs js:List Nat)(k:Nat):Str:=em m (js.getD k 0) (cs.getD k 0)
def scP(m:Mdl)(cs js:List Nat):Nat→Str×Int
 |0=>([49],0)
 |k+1=>tm (tm (scP m cs js k).2 (scA m js k) (scB m cs js k)).2 (scP m cs js k).1 (tm (scP m cs js k).2 (scA m js k) (scB m cs js k)).1
def scF(m:Mdl)(cs js:List Nat):Str×Int:=tm (scP m cs js js.length).2 (scP m cs js js.length).1 (nx m (lastOf m.tags.length js js.length) m.tags.length)
noncomputable def zdx(m:Mdl)(ws tgs:List Str):Str×Int:=
 if (vmB m&&zby ws)=false∨tgs.length≠ws.length then([],1)else if ¬∀ t∈zaH m tgs,t<m.tags.length then([],4)else
  if (scF m (zH m ws) (zaH m tgs)).2≠0 then([],(scF m (zH m ws) (zaH m tgs)).2)else((scF m (zH m ws) (zaH m tgs)).1,0)
theorem ztC(m:Mdl)(cs js:List Nat):∀ k,(scP m cs js k).1.length≤1000
 |0=>by simp [scP]
 |k+1=>tm_len _ _ _
theorem zgq(m:Mdl)(tgs:List Str)(i:Nat)(h:i<tgs.length):(zaH m tgs).getD i 0=idxS m.tags (tgs.getD i []):=by unfold zaH;rw [List.getD_eq_getElem?_getD,List.getD_eq_getElem?_getD,List.getElem?_map,List.getElem?_eq_getElem h];rfl
theorem zlR(m:Mdl)(ws:List Str)(i:Nat)(h:i<ws.length):(zH m ws).getD i 0=idxS m.words (ws.getD i []):=by unfold zH;rw [List.getD_eq_getElem?_getD,List.getD_eq_getElem?_getD,List.getElem?_map,List.getElem?_eq_getElem h];rfl
theorem zeL {n:Nat}{js:List Nat}{k:Nat}(h:∀ j,j<k→js.getD j 0<n):lastOf n js k≤n:=by
 unfold lastOf;split
 ·exact Nat.le_refl _
 ·exact Nat.le_of_lt (h _ (by omega))
theorem zgW(n:Nat)(js:List Nat)(k:Nat):lastOf n js (k+1)=js.getD k 0:=by unfold lastOf;rw [if_neg (by omega)];rfl
theorem zot {m:Mdl}(hv:vmB m=true):m.next.length=m.tags.length+1∧(∀ i,i≤m.tags.length→(nthR m.next i).length=m.tags.length+1)∧m.emit.length=m.tags.length∧(∀ i,i<m.tags.length→(nthR m.emit i).length=m.words.length+1)∧incS m.tags=true∧incS m.words=true:=by
 obtain⟨h1,h2⟩:=zs5 hv;unfold matB at h1 h2;simp only [Bool.and_eq_true,decide_eq_true_eq,List.all_eq_true]at h1 h2;unfold vmB at hv;simp only [Bool.and_eq_true]at hv;refine⟨h1.1,fun i hi=>?_,h2.1,fun i hi=>?_,hv.2.2.1,hv.2.2.2.1⟩
 ·have:=h1.2 _ (rowR.nth_mem (show i<m.next.length by omega));unfold zce at this;simp only [Bool.and_eq_true,decide_eq_true_eq]at this;exact this.1
 ·have:=h2.2 _ (rowR.nth_mem (show i<m.emit.length by omega));unfold zce at this;simp only [Bool.and_eq_true,decide_eq_true_eq]at this;exact this.1
theorem zcs(M:List (List Str))(i:Nat)(h:i<M.length):nthV (zI M) i=.fs (strs (nthR M i)) (nthR M i).length:=by have:=zjb M i h;rw [←zjy,this];rfl
set_option maxHeartbeats 8000000 in
set_option maxRecDepth 100000 in
theorem score_ok(m:Mdl)(ws tgs:List Str)(hf:Fit m)(hw:ws.length≤1000000)(ht:tgs.length≤1000000)(hl:∀ i j,(nx m i j).length≤1000000000∧(em m i j).length≤1000000000):
 PCall Tryz.prog 12 [mdlV m,.fs (strs ws) ws.length,.fs (strs tgs) tgs.length] (.ret (.tup [.str (zdx m ws tgs).1,.int .i64 (zdx m ws tgs).2])):=by
 have hΓ:=zf zhg zh
 have p1:ΔR 33 [mdlV m,.fs (strs ws) ws.length] ⟨[],0⟩=_:=ztw m ws hf hw
 obtain⟨R,hr⟩:∃ R,R=zdx m ws tgs:=⟨_,rfl⟩
 rw [←hr]
 unfold zdx at hr
 have vs:=zot (m:=m)
 refine PCall.walk (rs:=[.tmp 6,.tmp 7]) [0,1,2,3,6,7,8,9,10,11,12,13,21,27,30,31,32,33,45,75,92] [25] mixed (hΓ) (zoq) call12 Tryz.func12 rfl Tryz.ntmps12 rfl (by kernel_rfl) (by simp) (by simp [push_cast,zbQ]) ?_
 generalize hcs:zH m ws=cs at p1 hr
 generalize hjs:zaH m tgs=js at hr
 obtain⟨hcl,hca⟩:cs.length=ws.length∧∀ i,i<ws.length→cs.getD i 0=idxS m.words (ws.getD i []):=⟨by rw [←hcs];simp [zH],fun i hi=>by rw [←hcs];exact zlR m ws i hi⟩
 obtain⟨hjl,hja⟩:js.length=tgs.length∧∀ i,i<tgs.length→js.getD i 0=idxS m.tags (tgs.getD i []):=⟨by rw [←hjs];simp [zaH],fun i hi=>by rw [←hjs];exact zgq m tgs i hi⟩
 have iw:=zfk m.words
 have it:=zfk m.tags
 obtain⟨T,W,N,E⟩:=m
 unfold mdlV at p1 ⊢
 dsimp only at p1 vs hca hja iw it hr ⊢
 cases hb:(vmB ⟨T,W,N,E⟩&&zby ws)with
 |false=>
  rw [hb,if_neg (by simp)]at p1
  rw [if_pos (.inl hb)]at hr
  rw [hr]
  simp (disch:=first|assumption|(push_cast<;>omega)|omega) only [go_sem,p1]
 |true=>
  rw [hb,if_pos rfl]at p1
  obtain⟨v1,v2,v3,v4,v5,v6⟩:=vs (by simp only [Bool.and_eq_true]at hb;exact hb.1)
  have htl:=hf.tl
  dsimp only at htl
  by_cases hlen:tgs.length=ws.length
  rotate_left
  ·rw [if_pos (.inr hlen)]at hr
   rw [hr]
   have e1:decide ((tgs.length:Int)=(ws.length:Int))=false:=decide_eq_false (by omega)
   simp (disch:=first|assumption|(push_cast<;>omega)|omega) only [go_sem,p1,e1]
  rw [if_neg (by rintro(h|h);(rw [hb]at h;cases h);exact h hlen)]at hr
  have e1:decide ((tgs.length:Int)=(ws.length:Int))=true:=decide_eq_true (by omega)
  have q1:=zor 0 ⟨⟨T,W,N,E⟩,cs,0⟩ [(0,.cells (runC ⟨⟨T,W,N,E⟩,cs,0⟩))] 1 (by dsimp only;omega) rfl rfl
  dsimp only at q1
  simp (disch:=first|assumption|(push_cast<;>omega)|omega) only [go_sem,p1,e1,q1]
  obtain⟨M,hM⟩:∃ M,M=(⟨T,W,N,E⟩:Mdl):=⟨_,rfl⟩
  have hr1:(¬∀ t∈js,t<T.length)→R=([],4):=fun h=>by rw [if_pos h]at hr;exact hr
  have hr2:(∀ t∈js,t<T.length)→R=if (scF M cs js).2≠0 then([],(scF M cs js).2)else((scF M cs js).1,0):=fun h=>by rw [if_neg (fun k=>k h)]at hr;rw [hM];exact hr
  clear hr
  rw [←hM]at hl
  refine AXs.loop mixed (hΓ) (zoq) (fun i:Nat=>[(3,.fp [.fs (strs T) T.length,.fs (strs W) W.length,.fs (zI N) N.length,.fs (zI E) E.length]),(6,.str (scP M cs js i).1),(8,.ptr 0 0),(9,.int .i64 (lastOf T.length js i)),(10,.bool false),(30,.fs (strs tgs) tgs.length),(31,.int .i64 tgs.length),(32,.int .i64 i)])
   (fun i=>⟨[(0,.cells [.fs (strs T) T.length,.fs (strs W) W.length,.fs (zI N) N.length,.fs (zI E) E.length,.fs (nats .i64 cs) cs.length,.int .i64 (scP M cs js i).2])],1⟩) (fun i=>i≤tgs.length∧∀ j,j<i→js.getD j 0<T.length) (fun i=>tgs.length - i) 0 (by kernel_rfl) ⟨Nat.zero_le _,fun j hj=>by omega⟩ (Sub.of0 [(0,0)] rfl rfl ?_ ?_) ?_
  ·simp only [go_sem,scP,lastOf]
  ·simp only [go_sem,scP,runC]
  rintro i ⟨h1,h2⟩
  simp (disch:=first|assumption|(push_cast<;>omega)|omega) only [go_sem]
  refine AXc.introP (fun h3=>?_) (fun h3=>?_)
  ·have hi:i<tgs.length:=by omega
   have j1:=hja i hi
   have c1:=hca i (by omega)
   have it1:=it (tgs.getD i [])
   have iw1:=iw (ws.getD i [])
   have lo:=zeL h2
   have ls:=zgW T.length js i
   by_cases hk:js.getD i 0<T.length
   ·have e2:decide (((js.getD i 0:Nat):Int)=(T.length:Int))=false:=decide_eq_false (by omega)
    have n1:=zcs N (lastOf T.length js i) (by omega)
    have n2:=v2 (lastOf T.length js i) lo
    have n3:=zcs E (js.getD i 0) (by omega)
    have n4:=v4 (js.getD i 0) hk
    have hsp:scP M cs js (i+1)=tm (tm (scP M cs js i).2 ((nthR N (lastOf T.length js i)).getD (js.getD i 0) []) ((nthR E (js.getD i 0)).getD (cs.getD i 0) [])).2 (scP M cs js i).1 (tm (scP M cs js i).2 ((nthR N (lastOf T.length js i)).getD (js.getD i 0) []) ((nthR E (js.getD i 0)).getD (cs.getD i 0) [])).1:=by subst hM;rfl
    have l1:((nthR N (lastOf T.length js i)).getD (js.getD i 0) []).length≤1000000000:=by have:=(hl (lastOf T.length js i) (js.getD i 0)).1;subst hM;exact this
    have l2:((nthR E (js.getD i 0)).getD (cs.getD i 0) []).length≤1000000000:=by have:=(hl (js.getD i 0) (cs.getD i 0)).2;subst hM;exact this
    have l3:=ztC M cs js i
    have cb:cs.getD i 0≤W.length:=by omega
    generalize hA:(nthR N (lastOf T.length js i)).getD (js.getD i 0) []=A at l1 hsp
    generalize hB:(nthR E (js.getD i 0)).getD (cs.getD i 0) []=B at l2 hsp
    generalize scP M cs js i=pf at hsp l3 ⊢
    obtain⟨p,f⟩:=pf
    dsimp only at hsp l3 ⊢
    have t1:ΔR 36 [.ptr 0 0,.str A,.str B] ⟨[(0,.cells [.fs (strs T) T.length,.fs (strs W) W.length,.fs (zI N) N.length,.fs (zI E) E.length,.fs (nats .i64 cs) cs.length,.int .i64 f])],1⟩=some ⟨True,.str (tm f A B).1,⟨[(0,.cells [.fs (strs T) T.length,.fs (strs W) W.length,.fs (zI N) N.length,.fs (zI E) E.length,.fs (nats .i64 cs) cs.length,.int .i64 (tm f A B).2])],1⟩,[0],[0]⟩:=
     zgc 0 ⟨⟨T,W,N,E⟩,cs,f⟩ A B [(0,.cells [.fs (strs T) T.length,.fs (strs W) W.length,.fs (zI N) N.length,.fs (zI E) E.length,.fs (nats .i64 cs) cs.length,.int .i64 f])] 1 l1 l2 rfl rfl
    have lx:=tm_len f A B
    generalize tm f A B=x at hsp t1 lx
    obtain⟨x1,x2⟩:=x
    dsimp only at hsp t1 lx
    have t2:ΔR 36 [.ptr 0 0,.str p,.str x1] ⟨[(0,.cells [.fs (strs T) T.length,.fs (strs W) W.length,.fs (zI N) N.length,.fs (zI E) E.length,.fs (nats .i64 cs) cs.length,.int .i64 x2])],1⟩=some ⟨True,.str (tm x2 p x1).1,⟨[(0,.cells [.fs (strs T) T.length,.fs (strs W) W.length,.fs (zI N) N.length,.fs (zI E) E.length,.fs (nats .i64 cs) cs.length,.int .i64 (tm x2 p x1).2])],1⟩,[0],[0]⟩:=
     zgc 0 ⟨⟨T,W,N,E⟩,cs,x2⟩ p x1 [(0,.cells [.fs (strs T) T.length,.fs (strs W) W.length,.fs (zI N) N.length,.fs (zI E) E.length,.fs (nats .i64 cs) cs.length,.int .i64 x2])] 1 (by omega) (by omega) rfl rfl
    simp (disch:=first|assumption|(push_cast<;>omega)|omega) only [go_sem, ←j1,e2]
    (repeat refine sdC ?_)
    simp (disch:=first|assumption|(push_cast<;>omega)|omega) only [go_sem,n1,n3,hA,hB,t1,t2]
    (repeat refine sdC ?_)
    simp (disch:=first|assumption|(push_cast<;>omega)|omega) only [go_sem]
    refine zo (i+1) ⟨by omega,fun j hj=>?_⟩ (by omega) ?_
    ·by_cases hji:j<i
     ·exact h2 j hji
     ·obtain rfl:j=i:=by omega
      exact hk
    rw [hsp,ls]
    refine Sub.of0 [(0,0)] rfl rfl ?_ ?_
    ·simp only [go_sem]
     simp
    ·simp only [go_sem]
   ·have e2:decide (((js.getD i 0:Nat):Int)=(T.length:Int))=true:=decide_eq_true (by omega)
    have hR:=hr1 fun h=>hk (h _ (by rw [List.getD_eq_getElem?_getD,List.getElem?_eq_getElem (by omega)];exact List.getElem_mem _))
    rw [hR]
    simp (disch:=first|assumption|(push_cast<;>omega)|omega) only [go_sem, ←j1,e2]
    (repeat refine sdC ?_)
    refine AXa.go mixed (hΓ) (zoq) (by kernel_rfl) ?_
    simp (disch:=first|assumption|(push_cast<;>omega)|omega) only [go_sem]
  ·obtain rfl:i=tgs.length:=by omega
   have lo:=zeL h2
   have hall:∀ t∈js,t<T.length:=fun t ht=>by obtain⟨k,hk,rfl⟩:=List.mem_iff_getElem.1 ht;have:=h2 k (by omega);rwa [List.getD_eq_getElem?_getD,List.getElem?_eq_getElem hk]at this
   have hR:=hr2 hall
   have n1:=zcs N (lastOf T.length js tgs.length) (by omega)
   have n2:=v2 (lastOf T.length js tgs.length) lo
   have hsf:scF M cs js=tm (scP M cs js tgs.length).2 (scP M cs js tgs.length).1 ((nthR N (lastOf T.length js tgs.length)).getD T.length []):=by rw [←hjl];subst hM;rfl
   have l1:((nthR N (lastOf T.length js tgs.length)).getD T.length []).length≤1000000000:=by have:=(hl (lastOf T.length js tgs.length) T.length).1;subst hM;exact this
   have l3:=ztC M cs js tgs.length
   rw [hsf]at hR
   generalize scP M cs js tgs.length=pf at hR l3 ⊢
   obtain⟨p,f⟩:=pf
   dsimp only at hR l3 ⊢
   have q2:ΔR 34 [.ptr 0 0] ⟨[(0,.cells [.fs (strs T) T.length,.fs (strs W) W.length,.fs (zI N) N.length,.fs (zI E) E.length,.fs (nats .i64 cs) cs.length,.int .i64 f])],1⟩=some ⟨True,.int .i64 T.length,⟨[(0,.cells [.fs (strs T) T.length,.fs (strs W) W.length,.fs (zI N) N.length,.fs (zI E) E.length,.fs (nats .i64 cs) cs.length,.int .i64 f])],1⟩,[0],[]⟩:=zor 0 ⟨⟨T,W,N,E⟩,cs,f⟩ [(0,.cells [.fs (strs T) T.length,.fs (strs W) W.length,.fs (zI N) N.length,.fs (zI E) E.length,.fs (nats .i64 cs) cs.length,.int .i64 f])] 1 (by dsimp only;omega) rfl rfl
   have q3:ΔR 36 [.ptr 0 0,.str p,.str ((nthR N (lastOf T.length js tgs.length)).getD T.length [])] ⟨[(0,.cells [.fs (strs T) T.length,.fs (strs W) W.length,.fs (zI N) N.length,.fs (zI E) E.length,.fs (nats .i64 cs) cs.length,.int .i64 f])],1⟩=some ⟨True,.str (tm f p ((nthR N (lastOf T.length js tgs.length)).getD T.length [])).1,⟨[(0,.cells [.fs (strs T) T.length,.fs (strs W) W.length,.fs (zI N) N.length,.fs (zI E) E.length,.fs (nats .i64 cs) cs.length,.int .i64 (tm f p ((nthR N (lastOf T.length js tgs.length)).getD T.length [])).2])],1⟩,[0],[0]⟩:=
    zgc 0 ⟨⟨T,W,N,E⟩,cs,f⟩ p _ [(0,.cells [.fs (strs T) T.length,.fs (strs W) W.length,.fs (zI N) N.length,.fs (zI E) E.length,.fs (nats .i64 cs) cs.length,.int .i64 f])] 1 (by omega) l1 rfl rfl
   generalize tm f p ((nthR N (lastOf T.length js tgs.length)).getD T.length [])=z at hR q3
   simp (disch:=first|assumption|(push_cast<;>omega)|omega) only [go_sem]
   refine AXa.go mixed (hΓ) (zoq) (by kernel_rfl) ?_
   simp (disch:=first|assumption|(push_cast<;>omega)|omega) only [go_sem,q2,n1,q3]
   (repeat refine sdC ?_)
   simp (disch:=first|assumption|(push_cast<;>omega)|omega) only [go_sem]
   refine AXc.introN (fun h8=>?_) (fun h8=>?_)
   ·rw [if_pos h8]at hR
    rw [hR]
    simp (disch:=first|assumption|(push_cast<;>omega)|omega) only [go_sem]
    refine AXk.intro (by kernel_rfl) ?_
    simp (disch:=first|assumption|(push_cast<;>omega)|omega) only [go_sem]
   ·rw [if_neg (fun k=>k h8)]at hR
    rw [hR]
    simp (disch:=first|assumption|(push_cast<;>omega)|omega) only [go_sem]
end Go.Proofs
