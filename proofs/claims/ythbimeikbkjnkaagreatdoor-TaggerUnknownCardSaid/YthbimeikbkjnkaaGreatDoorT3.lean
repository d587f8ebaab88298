/- start: a run, or an error. -/
import Derived.Test.YthbimeikbkjnkaaGreatDoorQRat6
import Derived.Test.YthbimeikbkjnkaaGreatDoorVConc
import Derived.Test.YthbimeikbkjnkaaGreatDoorAbEvP
import Derived.Test.YthbimeikbkjnkaaGreatDoorPlPad
import Derived.KernelRfl
set_option linter.all false
namespace Go.Proofs
open Go.Ab Go.Cnt Go.Pl
noncomputable def cTVM:List V→Option PR:=zG (fun m:Mdl=>[mdlV m]) (fun m=>Fit m) fun m=>.ret (.bool (vmB m))
theorem zvY(m:Mdl)(h:Fit m):cTVM [mdlV m]=some (.ret (.bool (vmB m))):=zn (pat:=fun m:Mdl=>[mdlV m]) (fun x y h=>zje (by simpa using h)) m h
theorem zvX:∀ args r,cTVM args=some r→PCall Tryz.prog 64 args r:=zk fun m h=>zic m h
def zad(m:Mdl)(ws:List Str):List Nat:=ws.map (idxS m.words)
def slN(b:Nat)(l:List Nat):V:=if l=[]then .nilS else .sl b 0 l.length 1 none
def blkN(b:Nat)(l:List Nat)(r:List (Nat×Blk)):List (Nat×Blk):=if l=[]then r else(b,.cells (nats .i64 l))::r
theorem zmg(b:Nat):slN b []=.nilS:=rfl
theorem zjN(b:Nat)(r:List (Nat×Blk)):blkN b [] r=r:=rfl
theorem zn3(b:Nat){l:List Nat}(h:l≠[]):slN b l=.sl b 0 l.length 1 none:=if_neg h
theorem zjO(b:Nat){l:List Nat}(h:l≠[])(r:List (Nat×Blk)):blkN b l r=(b,.cells (nats .i64 l))::r:=if_neg h
theorem zht(m:Mdl)(ws:List Str):(!vmB m||decide (200<(ws.length:Int))|| !ws.all nameB)= !(vmB m&&zc8 ws):=by
 have e:decide (200<(ws.length:Int))= !decide (ws.length≤200):=by
  by_cases h:ws.length≤200
  ·rw [decide_eq_true h,decide_eq_false (by omega)];rfl
  ·rw [decide_eq_false h,decide_eq_true (by omega)];rfl
 unfold zc8;rw [e];cases vmB m<;>cases ws.all nameB<;>cases decide (ws.length≤200)<;>rfl
theorem zni(m:Mdl)(ws:List Str)(i:Nat)(h:i<ws.length):zad m (ws.take (i+1))=zad m (ws.take i)++[idxS m.words (ws.getD i [])]:=by unfold zad;rw [List.take_add_one,List.getElem?_eq_getElem h,List.getD_eq_getElem?_getD,List.getElem?_eq_getElem h,List.map_append];rfl
theorem zro(m:Mdl)(ws:List Str)(i:Nat)(h:i≤ws.length):(zad m (ws.take i)).length=i:=by unfold zad;simp;omega
theorem mdl4(T W:List Str)(N E:List (List Str)):∀ x∈[V.fs (strs T) T.length,.fs (strs W) W.length,.fs (zJ N) N.length,.fs (zJ E) E.length],Pure x:=fun x h=>by
 simp only [List.mem_cons,List.not_mem_nil,or_false]at h;rcases h with rfl|rfl|rfl|rfl
 ·exact .fs (zT _)
 ·exact .fs (zT _)
 ·exact .fs (zaG _)
 ·exact .fs (zaG _)
theorem mdl4P(T W:List Str)(N E:List (List Str)):(∀ x∈[V.fs (strs T) T.length,.fs (strs W) W.length,.fs (zJ N) N.length,.fs (zJ E) E.length],Pure x)↔True:=⟨fun _=>trivial,fun _=>mdl4 T W N E⟩
attribute [go_sem] mdl4P
set_option maxHeartbeats 8000000 in
set_option maxRecDepth 100000 in
theorem zsM(m:Mdl)(ws:List Str)(hf:Fit m)(hw:ws.length≤1000000)(hb:(vmB m&&zc8 ws)=false):NCall Tryz.prog 33 [mdlV m,.fs (strs ws) ws.length] [] [] (.tup [.nilP,.int .i64 1]) ⟨[],0⟩:=by
 have hΓ:=zg zvX (zg zwz (zg zly zh));have p1:=zvY m hf;have sc:=zht m ws;obtain⟨T,W,N,E⟩:=m;unfold mdlV at p1 ⊢;dsimp only at p1 ⊢;rw [hb]at sc;refine NCall.walk (rs:=[.tmp 4,.tmp 5]) [0,1,2,4,5,6,8,20,24,25,26,27] [25] 0 mixed (hΓ) (zf) call33 Tryz.func33 rfl Tryz.ntmps33 rfl (by kernel_rfl) (by simp) (by simp) (by simp) ?_;simp (disch:=first|assumption|(push_cast<;>omega)|omega) only [go_sem,p1];rw [sc];simp (disch:=first|assumption|(push_cast<;>omega)|omega) only [go_sem];exact⟨[(4,.nilP),(5,.int .i64 1)],Sub.of [] rfl (by simp only [go_sem]) (by simp only [go_sem]) (by decide) (fun b hb _=>absurd hb (Nat.not_lt_zero b)),rfl⟩
set_option maxHeartbeats 8000000 in
set_option maxRecDepth 100000 in
theorem start_N(m:Mdl)(ws:List Str)(hf:Fit m)(hw:ws.length≤1000000)(hv:vmB m=true)(hb:zc8 ws=true):NCall Tryz.prog 33 [mdlV m,.fs (strs ws) ws.length] [] [] (.tup [.ptr 0 0,.int .i64 0]) ⟨[(0,.cells (runC ⟨m,zad m ws,0⟩))],1⟩:=by
 have hΓ:=zg zvX (zg zwz (zg zly zh));have p1:=zvY m hf;have sc:(!vmB m||decide (200<(ws.length:Int))|| !ws.all nameB)=false:=by rw [zht,hv,hb];rfl
 have hi:incS m.words=true:=by unfold vmB at hv;simp only [Bool.and_eq_true]at hv;exact hv.2.2.2.1
 have hwl:=hf.wl;have ct:=zni m ws;have cl:=zro m ws;obtain⟨T,W,N,E⟩:=m;unfold mdlV at p1 ⊢;dsimp only at p1 hi ct hwl ⊢;refine NCall.walk (rs:=[.tmp 4,.tmp 5]) [0,1,2,4,5,6,8,20,24,25,26,27] [25] 0 mixed (hΓ) (zf) call33 Tryz.func33 rfl Tryz.ntmps33 rfl (by kernel_rfl) (by simp) (by simp) (by simp) ?_;simp (disch:=first|assumption|(push_cast<;>omega)|omega) only [go_sem,p1];rw [sc];simp (disch:=first|assumption|(push_cast<;>omega)|omega) only [go_sem];obtain⟨M,hM⟩:∃ M,M=(⟨T,W,N,E⟩:Mdl):=⟨_,rfl⟩;rw [←hM]at ct cl ⊢;refine AXs.loop mixed (hΓ) (zf) (fun i:Nat=>[(2,.fp [.fs (strs T) T.length,.fs (strs W) W.length,.fs (zJ N) N.length,.fs (zJ E) E.length]),(6,.ptr 0 0),(24,.fs (strs ws) ws.length),(25,.int .i64 ws.length),(26,.int .i64 i)])
  (fun i=>⟨blkN 1 (zad M (ws.take i)) [(0,.cells [.fs (strs T) T.length,.fs (strs W) W.length,.fs (zJ N) N.length,.fs (zJ E) E.length,slN 1 (zad M (ws.take i)),.int .i64 0])],2⟩) (fun i=>i≤ws.length) (fun i=>ws.length - i) 0 (by kernel_rfl) (Nat.zero_le _) (Sub.of0 [(0,0)] rfl rfl ?_ ?_) ?_
 ·simp only [go_sem]
 ·rw [List.take_zero,show zad M []=[]from rfl];simp only [go_sem,zjN,zmg]
 intro i h1;have cli:=cl i h1;simp (disch:=first|assumption|(push_cast<;>omega)|omega) only [go_sem];refine AXc.introP (fun h2=>?_) (fun h2=>?_)
 ·have hil:i<ws.length:=by omega
  have cti:=ct i hil;generalize zad M (ws.take i)=acc at cti cli ⊢;by_cases ne:acc=[]
  ·subst ne;have i0:i=0:=cli.symm;have nn:[idxS W (ws.getD i [])]≠[]:=by simp
   rw [List.nil_append]at cti;simp (disch:=first|assumption|(push_cast<;>omega)|omega) only [go_sem,zmg,zjN]
   (repeat refine sdC ?_);simp (disch:=first|assumption|(push_cast<;>omega)|omega) only [go_sem];refine zo (i+1) (by omega) (by omega) ?_;rw [cti,zn3 1 nn,zjO 1 nn];refine Sub.of0 [(0,0),(1,3)] rfl rfl ?_ ?_
   ·simp only [go_sem];simp
   ·simp only [go_sem];rfl
  ·have nn:acc++[idxS W (ws.getD i [])]≠[]:=by simp
   have nl:(acc++[idxS W (ws.getD i [])]).length=acc.length+1:=by simp
   have tk:List.take acc.length acc=acc:=List.take_length;simp (disch:=first|assumption|(push_cast<;>omega)|omega) only [go_sem,zn3 1 ne,zjO 1 ne]
   (repeat refine sdC ?_);simp (disch:=first|assumption|(push_cast<;>omega)|omega) only [go_sem];refine zo (i+1) (by omega) (by omega) ?_;rw [cti,zn3 1 nn,zjO 1 nn,nl];refine Sub.of0 [(0,0),(1,3)] rfl rfl ?_ ?_
   ·simp only [go_sem];simp
   ·simp only [go_sem,tk]
 ·obtain rfl:i=ws.length:=by omega
  rw [List.take_length]at cli ⊢;subst hM;simp (disch:=first|assumption|(push_cast<;>omega)|omega) only [go_sem];by_cases ne:zad ⟨T,W,N,E⟩ ws=[]
  ·rw [ne,zmg,zjN];refine AXa.go mixed (hΓ) (zf) (by kernel_rfl) ?_;simp (disch:=first|assumption|(push_cast<;>omega)|omega) only [go_sem];refine⟨[(4,.ptr 0 0),(5,.int .i64 0)],Sub.of [(0,0)] rfl ?_ ?_ (by decide) (fun b hb _=>absurd hb (Nat.not_lt_zero b)),rfl⟩
   ·simp only [go_sem]
   ·unfold runC;simp only [go_sem]
  ·rw [zn3 1 ne,zjO 1 ne];refine AXa.fz2 [1] [(0,runC ⟨⟨T,W,N,E⟩,zad ⟨T,W,N,E⟩ ws,0⟩)] (env':=[(6,.ptr 0 0)]) (n':=1) rfl rfl rfl ?_ ?_ ?_
   ·simp only [go_sem];exact .inl ⟨by simp,rfl⟩
   ·exact⟨⟨by decide,by simp,.inl (.same (.fs (zT _))),.inl (.same (.fs (zT _))),.inl (.same (.fs (zaG _))),.inl (.same (.fs (zaG _))),.inr (FrzF.slp (by simp) rfl rfl (by simp [nats]) (by rw [List.drop_zero,Nat.mul_one];exact(List.take_of_length_le (by simp [nats])).symm) (zaa _ _)),.inl (.same (.int _ _)),trivial⟩,trivial⟩
   change AXa _ _ _ _ _ _ ⟨[(0,.cells (runC ⟨⟨T,W,N,E⟩,zad ⟨T,W,N,E⟩ ws,0⟩))],1⟩;refine AXa.go mixed (hΓ) (zf) (by kernel_rfl) ?_;simp (disch:=first|assumption|(push_cast<;>omega)|omega) only [go_sem];refine⟨[(4,.ptr 0 0),(5,.int .i64 0)],Sub.of [(0,0)] rfl ?_ ?_ (by decide) (fun b hb _=>absurd hb (Nat.not_lt_zero b)),rfl⟩
   ·simp only [go_sem]
   ·simp only [go_sem]
def zxt(args:List V)(H:Hp)(r:AR):Prop:=∃ m ws,args=[mdlV m,.fs (strs ws) ws.length]∧Fit m∧ws.length≤1000000∧(∀ b x,H.get b=some x→b<H.next)∧
 r=if (vmB m&&zc8 ws)=true then⟨True,.tup [.ptr H.next 0,.int .i64 0],⟨(H.next,.cells (runC ⟨m,zad m ws,0⟩))::H.bs,H.next+1⟩,[],[]⟩else⟨True,.tup [.nilP,.int .i64 1],H,[],[]⟩
theorem zsN:∀ args H r,zxt args H r→HCall Tryz.prog 33 args H r:=by
 rintro args H r ⟨m,ws,rfl,hf,hw,hk,rfl⟩;have ha:∀ x∈[mdlV m,.fs (strs ws) ws.length],Pure x:=fun x hx=>by
  simp only [List.mem_cons,List.not_mem_nil,or_false]at hx;rcases hx with rfl|rfl
  ·exact zel m
  ·exact .fs (zT _)
 cases h:(vmB m&&zc8 ws)with
 |true=>rw [if_pos rfl];simp only [Bool.and_eq_true]at h;exact HCall.freshP (start_N m ws hf hw h.1 h.2) (za4 _) (.int _ _) ha H hk
 |false=>
  rw [if_neg (by simp)];refine HCall.plain (zsM m ws hf hw h) (.tup fun x hx=>?_) ha H hk;simp only [List.mem_cons,List.not_mem_nil,or_false]at hx;rcases hx with rfl|rfl
  ·exact .nilP
  ·exact .int _ _
theorem zsO(m:Mdl)(ws:List Str)(hf:Fit m)(hw:ws.length≤1000000):conD zxt [mdlV m,.fs (strs ws) ws.length] ⟨[],0⟩=
 some (if (vmB m&&zc8 ws)=true then⟨True,.tup [.ptr 0 0,.int .i64 0],⟨[(0,.cells (runC ⟨m,zad m ws,0⟩))],1⟩,[],[]⟩else⟨True,.tup [.nilP,.int .i64 1],⟨[],0⟩,[],[]⟩):=by
 refine zax ⟨m,ws,rfl,hf,hw,(fun b x h=>by cases h),rfl⟩ fun r' ⟨m',ws',e,_,_,_,e'⟩=>?_
 simp only [List.cons.injEq,V.fs.injEq,and_true]at e
 rw [e', ←zje e.1, ←zaB e.2.1]
end Go.Proofs

namespace Go.Tg
def lexLt:List Nat→List Nat→Bool
 |[],[]=>false
 |[],_::_=>true
 |_::_,[]=>false
 |x::a,y::b=>decide (x<y)||(decide (x=y)&&lexLt a b)
abbrev Cand:=Nat×List Nat
def better(x y:Cand):Cand:=if x.1<y.1∨(x.1=y.1∧y.1≠0∧lexLt y.2 x.2=true)then y else x
def stp(x:Cand)(w:Nat)(j:List Nat):Cand:=if x.1*w=0 then(0,[])else(x.1*w,x.2++j)
structure Best(S:Nat→List Nat→Prop)(x:Cand):Prop where
 z:x.1=0→x.2=[]
 i:x.1≠0→S x.1 x.2
 b:∀ w L,S w L→w≤x.1∧(w=x.1→x.1≠0→lexLt L x.2=false)
section
variable(n:Nat)(a:Nat→Nat→Nat→Nat)(b:Nat→Nat)
def src(t:Nat):List Nat:=if t=0 then [n]else List.range n
def fw:Nat→Nat→Cand
 |0,_=>(1,[])
 |t+1,j=>(src n t).foldl (fun v i=>better v (stp (fw t i) (a t i j) [j])) (0,[])
def fin(T:Nat):Cand:=(src n T).foldl (fun v i=>better v (stp (fw n a T i) (b i) [])) (0,[])
def lastOf(L:List Nat)(k:Nat):Nat:=if k=0 then n else L.getD (k - 1) 0
def pw(L:List Nat):Nat→Nat
 |0=>1
 |k+1=>pw L k*a k (lastOf n L k) (L.getD k 0)
def wt(L:List Nat)(T:Nat):Nat:=pw n a L T*b (lastOf n L T)
def LL:Nat→List (List Nat)
 |0=>[[]]
 |t+1=>(LL t).flatMap fun l=>(List.range n).map fun j=>l++[j]
theorem LL_len:∀ t,∀ l∈LL n t,l.length=t
 |0,l,h=>by simp [LL]at h;simp [h]
 |t+1,l,h=>by simp only [LL,List.mem_flatMap,List.mem_map,List.mem_range]at h;obtain⟨l',h1,j,_,rfl⟩:=h;simp [LL_len t l' h1]
theorem LL_mem:∀ t,∀ l∈LL n t,∀ x∈l,x<n
 |0,l,h,x,hx=>by simp [LL]at h;simp [h]at hx
 |t+1,l,h,x,hx=>by
  simp only [LL,List.mem_flatMap,List.mem_map,List.mem_range]at h;obtain⟨l',h1,j,hj,rfl⟩:=h;rcases List.mem_append.1 hx with hx|hx
  ·exact LL_mem t l' h1 x hx
  ·rw [List.mem_singleton.1 hx];exact hj
def all(w:List Nat→Nat)(l:List (List Nat)):Cand:=l.foldl (fun m L=>if m.1<w L then(w L,L)else m) (0,[])
end
end Go.Tg

namespace Go.Proofs
open Go.Ab Go.Cnt Go.Pl Go.Tg
def nx(m:Mdl)(i j:Nat):Str:=(nthR m.next i).getD j []
def em(m:Mdl)(j c:Nat):Str:=(nthR m.emit j).getD c []
section
variable {β:Type}(st:Int→β→List Nat→Str→β×Int)(pl:Int→β→β→β×Int)(m:Mdl)(none first:β)
def one(f:Int)(v u:β)(j:List Nat)(a b:Str):β×Int:=pl (st (tm f a b).2 u j (tm f a b).1).2 v (st (tm f a b).2 u j (tm f a b).1).1
def one'(f:Int)(v u:β)(a:Str):β×Int:=pl (st f u [] a).2 v (st f u [] a).1
def row1(bef:Nat→Option β)(j c:Nat)(f:Int):Nat→β×Int
 |0=>(none,f)
 |k+1=>match bef k with
  |some u=>one st pl (row1 bef j c f k).2 (row1 bef j c f k).1 u [j] (nx m k j) (em m j c)
  | .none=>row1 bef j c f k
def rowK(bef:Nat→Option β)(c:Nat)(f:Int):Nat→List β×Int
 |0=>([],f)
 |j+1=>((rowK bef c f j).1++[(row1 st pl m none bef j c (rowK bef c f j).2 (m.tags.length+1)).1],(row1 st pl m none bef j c (rowK bef c f j).2 (m.tags.length+1)).2)
def befT(t:Nat)(l:List β):Nat→Option β:=fun i=>if t=0 then(if i=m.tags.length then some first else .none)else l[i]?
def fwdT(cs:List Nat):Nat→List β×Int
 |0=>([],0)
 |t+1=>rowK st pl m none (befT m first t (fwdT cs t).1) (cs.getD t 0) (fwdT cs t).2 m.tags.length
def fin1(bef:Nat→Option β)(f:Int):Nat→β×Int
 |0=>(none,f)
 |k+1=>match bef k with
  |some u=>one' st pl (fin1 bef f k).2 (fin1 bef f k).1 u (nx m k m.tags.length)
  | .none=>fin1 bef f k
def finT(cs:List Nat):β×Int:=fin1 st pl m none (befT m first cs.length (fwdT st pl m none first cs cs.length).1) (fwdT st pl m none first cs cs.length).2 (m.tags.length+1)
end
abbrev TL:=Str×List Nat
def cmpL:List Nat→List Nat→Int
 |[],[]=>0
 |[],_::_=> -1
 |_::_,[]=>1
 |x::a,y::b=>if x<y then -1 else if y<x then 1 else cmpL a b
def betT(a b:TL):TL:=if za5 a.1 b.1<0∨(za5 a.1 b.1=0∧b.1≠[48]∧cmpL b.2 a.2<0)then b else a
def stL(f:Int)(u:TL)(j:List Nat)(p:Str):TL×Int:=if (tm f u.1 p).1=[48]then(((tm f u.1 p).1,[]),(tm f u.1 p).2)else(((tm f u.1 p).1,u.2++j),(tm f u.1 p).2)
def plL(f:Int)(a b:TL):TL×Int:=(betT a b,f)
structure Nums(m:Mdl)(cs:List Nat)(N:Nat→Nat→Nat→Nat)(E:Nat→Nat→Nat)(b:Nat→Nat)(DN DE:Nat→Nat)(Df:Nat):Prop where
 n:∀ t i j,t<cs.length→i∈src m.tags.length t→j<m.tags.length→Is (nx m i j) (N t i j) (DN t)∧N t i j≤DN t
 e:∀ t j,t<cs.length→j<m.tags.length→Is (em m j (cs.getD t 0)) (E t j) (DE t)∧E t j≤DE t
 f:∀ i,i∈src m.tags.length cs.length→Is (nx m i m.tags.length) (b i) Df∧b i≤Df
 pn:∀ t,0<DN t
 pe:∀ t,0<DE t
 pf:0<Df
def YY(DN DE:Nat→Nat):Nat→Nat
 |0=>1
 |t+1=>YY DN DE t*(DN t*DE t)
section
variable {m:Mdl}{cs:List Nat}{N:Nat→Nat→Nat→Nat}{E:Nat→Nat→Nat}{b:Nat→Nat}{DN DE:Nat→Nat}{Df:Nat}
theorem YY_pos(H:Nums m cs N E b DN DE Df):∀ t,0<YY DN DE t
 |0=>Nat.one_pos
 |t+1=>Nat.mul_pos (YY_pos H t) (Nat.mul_pos (H.pn t) (H.pe t))
theorem ziy {β:Type}(st:Int→β→List Nat→Str→β×Int)(pl:Int→β→β→β×Int)(m:Mdl)(none:β)(bef:Nat→Option β)(c:Nat)(f:Int):∀ k,(rowK st pl m none bef c f k).1.length=k
 |0=>rfl
 |k+1=>by rw [rowK,List.length_append,ziy st pl m none bef c f k];rfl
end
end Go.Proofs

namespace Go.Proofs
open Go.Ab Go.Cnt Go.Pl Go.Tg
section
variable {m:Mdl}{cs:List Nat}{N:Nat→Nat→Nat→Nat}{E:Nat→Nat→Nat}{b:Nat→Nat}{DN DE:Nat→Nat}{Df:Nat}
theorem getD_lt {L:List Nat}{T k:Nat}(hL:L∈LL m.tags.length T)(hk:k<T):L.getD k 0<m.tags.length:=by have hl:=LL_len _ _ _ hL;refine LL_mem _ _ _ hL _ ?_;rw [List.getD_eq_getElem?_getD,List.getElem?_eq_getElem (by omega)];exact List.getElem_mem _
end
theorem zsl {m:Mdl}(h:vmB m=true):matB m.next (m.tags.length+1) (m.tags.length+1)=true∧matB m.emit m.tags.length (m.words.length+1)=true:=by unfold vmB at h;simp only [Bool.and_eq_true]at h;exact⟨h.2.2.2.2.2.1,h.2.2.2.2.2.2⟩
end Go.Proofs

namespace Go.Proofs
open Go.Ab Go.Cnt Go.Pl Go.Tg
theorem zvp(m:Mdl)(ws:List Str)(i:Nat)(h:i<ws.length):(zad m ws).getD i 0=idxS m.words (ws.getD i []):=by unfold zad;rw [List.getD_eq_getElem?_getD,List.getD_eq_getElem?_getD,List.getElem?_map,List.getElem?_eq_getElem h];rfl
theorem vm_sizes {m:Mdl}(hv:vmB m=true):m.next.length=m.tags.length+1∧(∀ i,i≤m.tags.length→(nthR m.next i).length=m.tags.length+1)∧m.emit.length=m.tags.length∧(∀ i,i<m.tags.length→(nthR m.emit i).length=m.words.length+1)∧incS m.tags=true∧incS m.words=true:=by
 obtain⟨h1,h2⟩:=zsl hv;unfold matB at h1 h2;simp only [Bool.and_eq_true,decide_eq_true_eq,List.all_eq_true]at h1 h2;unfold vmB at hv;simp only [Bool.and_eq_true]at hv;refine⟨h1.1,fun i hi=>?_,h2.1,fun i hi=>?_,hv.2.2.1,hv.2.2.2.1⟩
 ·have:=h1.2 _ (rowR.nth_mem (show i<m.next.length by omega));unfold zeL at this;simp only [Bool.and_eq_true,decide_eq_true_eq]at this;exact this.1
 ·have:=h2.2 _ (rowR.nth_mem (show i<m.emit.length by omega));unfold zeL at this;simp only [Bool.and_eq_true,decide_eq_true_eq]at this;exact this.1
theorem zft(M:List (List Str))(i:Nat)(h:i<M.length):nthV (zJ M) i=.fs (strs (nthR M i)) (nthR M i).length:=by have:=zn5 M i h;rw [←ziY,this];rfl
end Go.Proofs

namespace Go.Proofs
open Go.Ab Go.Cnt Go.Pl Go.Tg
theorem ixI_f {l:List Str}{s:Str}(h:idxS l s<l.length):ixI l s=idxS l s:=if_pos h
theorem ixI_n {l:List Str}{s:Str}(h:¬idxS l s<l.length):ixI l s= -1:=if_neg h
end Go.Proofs

namespace Go.Proofs
open Go.Ab
theorem zaS:Tryz.prog.follows .mixedOrders=true:=by kernel_rfl
end Go.Proofs

namespace Go.Ab
variable {P:Program}
abbrev FTab:=List (List V×V)
abbrev Tab:=List (FuncId×FTab)
def eqS:List UInt8→List UInt8→Bool
 |[],[]=>true
 |a::r,b::s=>Nat.beq a.toNat b.toNat&&eqS r s
 |_,_=>false
theorem eqS_eq:∀ {a b:List UInt8},eqS a b=true→a=b
 |[],b,h=>by cases b<;>simp [eqS]at h;rfl
 |x::r,b,h=>by
  cases b with
  |nil=>simp [eqS]at h
  |cons y s=>simp [eqS]at h;rw [eqS_eq h.2,UInt8.toNat_inj.1 h.1]
def eqA:V→V→Bool
 | .str a,.str b=>eqS a b
 | .int k a,.int k' b=>decide (k=k')&&decide (a=b)
 | .bool a,.bool b=>a==b
 |_,_=>false
def eqAs:List V→List V→Bool
 |[],[]=>true
 |a::r,b::s=>eqA a b&&eqAs r s
 |_,_=>false
theorem eqA_eq {a b:V}(h:eqA a b=true):a=b∧Pure a:=by
 unfold eqA at h;split at h
 ·exact⟨by rw [eqS_eq h],.str _⟩
 ·simp at h;exact⟨by rw [h.1,h.2],.int _ _⟩
 ·simp at h;exact⟨by rw [h],.bool _⟩
 ·cases h
theorem zu6:∀ {a b:List V},eqAs a b=true→a=b
 |[],b,h=>by cases b<;>simp [eqAs]at h;rfl
 |x::r,b,h=>by
  cases b with
  |nil=>simp [eqAs]at h
  |cons y s=>simp [eqAs]at h;rw [(eqA_eq h.1).1,zu6 h.2]
def tabGo(L:FTab)(args:List V):Option PR:=
 match L with
 |[]=>none
 |q::r=>match eqAs q.1 args with
  |true=>some (.ret q.2)
  |false=>tabGo r args
def tabF(T:Tab)(f:FuncId)(args:List V):Option PR:=
 match T with
 |[]=>none
 |e::r=>match Nat.beq e.1 f with
  |true=>tabGo e.2 args
  |false=>tabF r f args
def FTabOK(P:Program)(f:FuncId)(L:FTab):Prop:=∀ q∈L,PCall P f q.1 (.ret q.2)
theorem FTabOK.nil {f:FuncId}:FTabOK P f []:=fun _ h=>by cases h
theorem FTabOK.append {f:FuncId}{L M:FTab}(h:FTabOK P f L)(k:FTabOK P f M):FTabOK P f (L++M):=fun q hq=>(List.mem_append.1 hq).elim (h q) (k q)
def TabOK(P:Program)(T:Tab):Prop:=∀ e∈T,FTabOK P e.1 e.2
theorem TabOK.nil:TabOK P []:=fun _ h=>by cases h
theorem TabOK.cons {f:FuncId}{L:FTab}{T:Tab}(h:FTabOK P f L)(k:TabOK P T):TabOK P ((f,L)::T):=fun e he=>by
 rcases List.mem_cons.1 he with rfl|he
 ·exact h
 ·exact k e he
theorem zn0 {f:FuncId}{args:List V}{r:PR}:∀ {L:FTab},FTabOK P f L→tabGo L args=some r→PCall P f args r
 |[],_,h=>by cases h
 |q::L,ok,h=>by
  unfold tabGo at h;split at h
  ·rename_i e;cases h;rw [←zu6 e];exact ok q (List.mem_cons_self ..)
  ·exact zn0 (fun q hq=>ok q (List.mem_cons_of_mem _ hq)) h
theorem zsw {f:FuncId}{args:List V}{r:PR}:∀ {T:Tab},TabOK P T→tabF T f args=some r→PCall P f args r
 |[],_,h=>by cases h
 |e::T,ok,h=>by
  unfold tabF at h;split at h
  ·rename_i q;have q':=Nat.eq_of_beq_eq_true q;subst q';exact zn0 (ok e (List.mem_cons_self ..)) h
  ·exact zsw (fun e he=>ok e (List.mem_cons_of_mem _ he)) h
noncomputable def chkT(E:ECfg)(P:Program)(n:Nat)(f:FuncId)(L:FTab):Bool:=
 match L with
 |[]=>true
 |q::r=>
  match eAns E P n f q.1 with
  |some v=>beqV v q.2&&eqAs q.1 q.1&&chkT E P n f r
  |none=>false
theorem zle:∀ {a:List V},eqAs a a=true→∀ x∈a,Pure x
 |y::r,h,x,hx=>by
  simp [eqAs]at h;rcases List.mem_cons.1 hx with rfl|hx
  ·exact(eqA_eq h.1).2
  ·exact zle h.2 x hx
theorem zan {E:ECfg}(hm:P.follows .mixedOrders=true)(hΓ:∀ f args r,E.Γ f args=some r→PCall P f args r)(hcan:∀ f,E.can f=true→zi P f)(hsp:zfC P E)
 {n:Nat} {f:FuncId}:∀ {L:FTab},chkT E P n f L=true→FTabOK P f L
 |[],_=>FTabOK.nil
 |q::L,h=>by
  unfold chkT at h;split at h;rotate_left;·cases h
  rename_i v hv;simp only [Bool.and_eq_true]at h;intro q' hq;rcases List.mem_cons.1 hq with rfl|hq
  ·have:=zvc hm hΓ hcan hsp (zle h.1.2) hv;rw [zgL h.1.1]at this;exact this
  ·exact zan hm hΓ hcan hsp h.2 q' hq
def zfK(E:ECfg)(T:Tab):ECfg:={ E with Γ:=fun f args=>match tabF T f args with|some r=>some r|none=>E.Γ f args }
theorem zdw {E:ECfg}{T:Tab}(hΓ:∀ f args r,E.Γ f args=some r→PCall P f args r)(hT:TabOK P T):∀ f args r,(zfK E T).Γ f args=some r→PCall P f args r:=by
 intro f args r h;have h':(match tabF T f args with|some r=>some r|none=>E.Γ f args)=some r:=h;split at h'
 ·rename_i r' hr;cases h';exact zsw hT hr
 ·exact hΓ f args r h'
end Go.Ab

namespace Go.Proofs
open Go.Ab
theorem can1:((List.range (260+1)).all fun f=>[0,1,236,247,251,258].contains f||canB Tryz.prog f)=true:=by kernel_rfl
def zuY(args:List V):Option PR:=
 match args with
 |[.str s,.int .u8 n]=>bif decide (0≤n)&&decide (n<256)then some (.ret (.int .i64 (ixB s (UInt8.ofNat n.toNat))))else none
 |_=>none
theorem zuX(args:List V)(r:PR)(h:zuY args=some r):PCall Tryz.prog 251 args r:=by
 unfold zuY at h;split at h
 ·rename_i s n;cases hc:(decide (0≤n)&&decide (n<256))with
  |false=>rw [hc]at h;cases h
  |true=>
   rw [hc]at h;cases h;simp only [Bool.and_eq_true,decide_eq_true_eq]at hc;have e:((UInt8.ofNat n.toNat).toNat:Int)=n:=by simp;omega
   have:=zoz s (UInt8.ofNat n.toNat);rw [e]at this;exact this
 ·cases h
def Γ1(f:FuncId)(args:List V):Option PR:=bif Nat.beq f 251 then zuY args else none
theorem zj1:∀ f args r,Γ1 f args=some r→PCall Tryz.prog f args r:=by
 intro f args r h;unfold Γ1 at h;cases hf:Nat.beq f 251 with
 |false=>rw [hf]at h;cases h
 |true=>rw [hf]at h;rw [Nat.eq_of_beq_eq_true hf];exact zuX _ _ h
def wr1(f:FuncId):Nat:=bif Nat.beq f 245||Nat.beq f 208||Nat.beq f 230||Nat.beq f 171 then 1 else bif Nat.beq f 210||Nat.beq f 212 then 2 else 0
def E1:ECfg:=⟨Γ1,canL [0,1,236,247,251,258] 260,wr1,fun _=>false,100000,spec1⟩
end Go.Proofs

namespace Go.Proofs
open Go.Ab
def TAL150:List (List V×V):=[([.str [48]],.bool true),
 ([.str [49]],.bool true),
 ([.str [52]],.bool true),
 ([.str [50]],.bool true),
 ([.str [51]],.bool true),
 ([.str [49,54]],.bool true),
 ([.str [56]],.bool true),
 ([.str [51,50]],.bool true),
 ([.str [49,50,56]],.bool true),
 ([.str [50,53,54]],.bool true)]
theorem zxl:FTabOK Tryz.prog 150 TAL150:=zan (E:=E1) (n:=60) zaS zj1 (zao can1) (zV rfl) (by kernel_rfl)
def TAL154:List (List V×V):=[([.str [48],.str [45]],.tup [.str [48],.bool false]),
 ([.str [49],.str [45]],.tup [.str [49],.bool false]),
 ([.str [49,47,52],.str [45]],.tup [.str [49,47,52],.bool false]),
 ([.str [49,47,50],.str [45]],.tup [.str [49,47,50],.bool false]),
 ([.str [51,47,52],.str [45]],.tup [.str [51,47,52],.bool false]),
 ([.str [51,47,49,54],.str [45]],.tup [.str [51,47,49,54],.bool false]),
 ([.str [49,47,56],.str [45]],.tup [.str [49,47,56],.bool false]),
 ([.str [49,47,51,50],.str [45]],.tup [.str [49,47,51,50],.bool false]),
 ([.str [51,47,56],.str [45]],.tup [.str [51,47,56],.bool false]),
 ([.str [49,47,49,54],.str [45]],.tup [.str [49,47,49,54],.bool false]),
 ([.str [51,47,49,50,56],.str [45]],.tup [.str [51,47,49,50,56],.bool false]),
 ([.str [51,47,50,53,54],.str [45]],.tup [.str [51,47,50,53,54],.bool false])]
theorem zxk:FTabOK Tryz.prog 154 TAL154:=zan (E:=E1) (n:=60) zaS zj1 (zao can1) (zV rfl) (by kernel_rfl)
def TAL155:List (List V×V):=[([.str [48],.str [47]],.tup [.str [48],.str [],.bool false]),
 ([.str [49],.str [47]],.tup [.str [49],.str [],.bool false]),
 ([.str [49,47,52],.str [47]],.tup [.str [49],.str [52],.bool true]),
 ([.str [49,47,50],.str [47]],.tup [.str [49],.str [50],.bool true]),
 ([.str [51,47,52],.str [47]],.tup [.str [51],.str [52],.bool true]),
 ([.str [51,47,49,54],.str [47]],.tup [.str [51],.str [49,54],.bool true]),
 ([.str [49,47,56],.str [47]],.tup [.str [49],.str [56],.bool true]),
 ([.str [49,47,51,50],.str [47]],.tup [.str [49],.str [51,50],.bool true]),
 ([.str [51,47,56],.str [47]],.tup [.str [51],.str [56],.bool true]),
 ([.str [49,47,49,54],.str [47]],.tup [.str [49],.str [49,54],.bool true]),
 ([.str [51,47,49,50,56],.str [47]],.tup [.str [51],.str [49,50,56],.bool true]),
 ([.str [51,47,50,53,54],.str [47]],.tup [.str [51],.str [50,53,54],.bool true])]
theorem zxj:FTabOK Tryz.prog 155 TAL155:=zan (E:=E1) (n:=60) zaS zj1 (zao can1) (zV rfl) (by kernel_rfl)
def TAL128:List (List V×V):=[([.str [49]],.bool true),
 ([.str [48]],.bool true),
 ([.str [50]],.bool true),
 ([.str [51]],.bool true),
 ([.str [52]],.bool true),
 ([.str [49,54]],.bool true),
 ([.str [56]],.bool true)]
theorem zxq:FTabOK Tryz.prog 128 TAL128:=zan (E:=E1) (n:=60) zaS zj1 (zao can1) (zV rfl) (by kernel_rfl)
def TTA0:Tab:=[(150,TAL150),(154,TAL154),(155,TAL155),(128,TAL128)]
theorem TTA0_ok:TabOK Tryz.prog TTA0:=TabOK.cons zxl (TabOK.cons zxk (TabOK.cons zxj (TabOK.cons zxq (TabOK.nil))))
noncomputable def ETA0:ECfg:=zfK E1 TTA0
theorem zch:∀ f args r,ETA0.Γ f args=some r→PCall Tryz.prog f args r:=zdw zj1 TTA0_ok
end Go.Proofs
