/- Estimating, as the reference does (ref35.Estimate). -/
import Derived.Test.YtfilkkmcagndlaaGreatDoorQRat2
import Derived.Test.YtfilkkmcagndlaaGreatDoorQRat5
set_option linter.all false
namespace Go.Proofs
open Go.Ab Go.Cnt Go.Pl
def slS(b:Nat)(l:List Str):V:=match l with|[]=>.nilS|_=>.sl b 0 l.length 1 none
def blkS(b:Nat)(l:List Str)(bs:List (Nat×Blk)):List (Nat×Blk):=match l with|[]=>bs|_=>(b,.cells (strs l))::bs
theorem zQ(b:Nat):slS b []=.nilS:=rfl
theorem zF(b:Nat)(bs:List (Nat×Blk)):blkS b [] bs=bs:=rfl
theorem zD(b:Nat){l:List Str}(h:l≠[]):slS b l=.sl b 0 l.length 1 none:=by cases l with|nil=>exact absurd rfl h|cons e l=>rfl
theorem zq(b:Nat){l:List Str}(h:l≠[])(bs:List (Nat×Blk)):blkS b l bs=(b,.cells (strs l))::bs:=by cases l with|nil=>exact absurd rfl h|cons e l=>rfl
def estK(p:List Str×List Str):Hp:=⟨blkS 3 p.2 (blkS 2 p.1 [(1,.cells [slS 2 p.1,slS 3 p.2,.nilS,.nilS]),(0,.cells [.nilS,.nilS,.nilS,.nilS])]),4⟩
theorem sub_estK {C:Cfg}(h0:C.nx=0)(p:List Str×List Str){env env':Env}(he:subE (piL []) (· <4) env env'):Sub C ⟨env,estK p⟩ ⟨env',estK p⟩:=by
 obtain⟨N,E⟩:=p;by_cases n0:N=[]<;>by_cases z0:E=[]
 ·simp only [estK,n0,z0,zQ,zF];refine Sub.of0 [] h0 rfl he ?_;simp only [go_sem]
 ·simp only [estK,n0,zQ,zD 3 z0,zF,zq 3 z0];refine Sub.of0 [] h0 rfl he ?_;simp only [go_sem]
 ·simp only [estK,z0,zQ,zD 2 n0,zF,zq 2 n0];refine Sub.of0 [] h0 rfl he ?_;simp only [go_sem]
 ·simp only [estK,zD 2 n0,zD 3 z0,zq 2 n0,zq 3 z0];refine Sub.of0 [] h0 rfl he ?_;simp only [go_sem]
theorem four(T:List Str)(s:Str):(T=[]∧s=[])∨(T=[]∧s≠[])∨(T≠[]∧hasN T s=true)∨(T≠[]∧hasN T s=false):=by
 by_cases h:T=[]
 ·by_cases hs:s=[]
  ·exact .inl ⟨h,hs⟩
  ·exact .inr (.inl ⟨h,hs⟩)
 ·cases e:hasN T s with
  |true=>exact .inr (.inr (.inl ⟨h,rfl⟩))
  |false=>exact .inr (.inr (.inr ⟨h,rfl⟩))
theorem frz_agg4(H:Hp)(a b c d a' b' c' d':V):Frz H (.agg [a,b,c,d]) (.agg [a',b',c',d'])↔Frz H a a'∧Frz H b b'∧Frz H c c'∧Frz H d d':=by
 constructor
 ·intro h;cases h with
  |pure hp=>have h4:=(zad _).1 hp;exact⟨.pure (h4 _ (by simp)),.pure (h4 _ (by simp)),.pure (h4 _ (by simp)),.pure (h4 _ (by simp))⟩
  |agg hl h=>exact⟨h 0 a a' rfl rfl,h 1 b b' rfl rfl,h 2 c c' rfl rfl,h 3 d d' rfl rfl⟩
 ·rintro⟨h1,h2,h3,h4⟩;refine .agg rfl fun i x y hx hy=>?_;match i with
  |0=>cases hx;cases hy;exact h1
  |1=>cases hx;cases hy;exact h2
  |2=>cases hx;cases hy;exact h3
  |3=>cases hx;cases hy;exact h4
  |i+4=>simp at hx
attribute [go_sem] frz_agg4
theorem zrg {s:Str}(h:nameB s=true):s≠[]:=by rintro rfl;unfold nameB at h;simp at h
theorem zvU {A B:List Ent}(h:zct A B=true){i:Nat}(hi:i<B.length):(nthE B i).1.1≠[]∧(nthE B i).1.2≠[]:=by unfold zct vB at h;simp only [Bool.and_eq_true]at h;have:=List.all_eq_true.1 h.2.1.2 _ (zcq hi);unfold zcH at this;simp at this;exact⟨zrg this.1.2,zrg this.2⟩
theorem zN:zbM []=[]:=rfl
theorem ratP_nil:ratP []=none:=by decide
theorem fz_est {C:Cfg}{P:Program}{K:Out→St→Prop}{st:List Fr}{y:Code}{env:Env}(T W:List Str){k:Str}{pc:List V}(hW:C.Wm=[])(h0:C.nx=0)(e1:zds env 1=.str k)(e2:zds env 2=.fp pc)(hpc:∀ x∈pc,Pure x)(e4:zds env 4=.ptr 0 0)(e6:zds env 6=.ptr 1 0)
 (hx:AXa C P K st y [(1,.str k),(2,.fp pc),(4,.ptr 0 0),(6,.ptr 1 0)] ⟨[(1,.cells [.fs (strs T) T.length,.fs (strs W) W.length,.nilS,.nilS]),(0,.cells [.nilS,.nilS,.nilS,.nilS])],4⟩):AXa C P K st y env (estK (T,W)):=by
 by_cases n0:T=[]<;>by_cases z0:W=[]
 ·subst n0 z0
  simp only [estK,zQ,zF]
  refine AXa.fz2 [] [(1,[.fs (strs _) _,.fs (strs _) _,.nilS,.nilS]),(0,[.nilS,.nilS,.nilS,.nilS])] hW h0 rfl ?_ ?_ hx
  ·simp only [zf2,ziL,e1,e2,e4,e6,zjU,zwu,zmS]
   exact⟨.inl trivial,.inl ⟨trivial,hpc⟩,.inl (by simp),.inl (by simp),trivial⟩
  ·exact⟨⟨by decide,by simp,.inl .nil0,.inl .nil0,.inl (.same .nilS),.inl (.same .nilS),trivial⟩,⟨by decide,by simp,.inl (.same .nilS),.inl (.same .nilS),.inl (.same .nilS),.inl (.same .nilS),trivial⟩,trivial⟩
 ·subst n0
  simp only [estK,zQ,zF,zD 3 z0,zq 3 z0]
  refine AXa.fz2 [3] [(1,[.fs (strs _) _,.fs (strs _) _,.nilS,.nilS]),(0,[.nilS,.nilS,.nilS,.nilS])] hW h0 rfl ?_ ?_ hx
  ·simp only [zf2,ziL,e1,e2,e4,e6,zjU,zwu,zmS]
   exact⟨.inl trivial,.inl ⟨trivial,hpc⟩,.inl (by simp),.inl (by simp),trivial⟩
  ·exact⟨⟨by decide,by simp,.inl .nil0,.inr (FrzF.slp (by simp) rfl rfl (by simp [strs]) (by rw [List.drop_zero,Nat.mul_one,za5,List.take_length]) (zV _)),.inl (.same .nilS),.inl (.same .nilS),trivial⟩,⟨by decide,by simp,.inl (.same .nilS),.inl (.same .nilS),.inl (.same .nilS),.inl (.same .nilS),trivial⟩,trivial⟩
 ·subst z0
  simp only [estK,zQ,zF,zD 2 n0,zq 2 n0]
  refine AXa.fz2 [2] [(1,[.fs (strs _) _,.fs (strs _) _,.nilS,.nilS]),(0,[.nilS,.nilS,.nilS,.nilS])] hW h0 rfl ?_ ?_ hx
  ·simp only [zf2,ziL,e1,e2,e4,e6,zjU,zwu,zmS]
   exact⟨.inl trivial,.inl ⟨trivial,hpc⟩,.inl (by simp),.inl (by simp),trivial⟩
  ·exact⟨⟨by decide,by simp,.inr (FrzF.slp (by simp) rfl rfl (by simp [strs]) (by rw [List.drop_zero,Nat.mul_one,za5,List.take_length]) (zV _)),.inl .nil0,.inl (.same .nilS),.inl (.same .nilS),trivial⟩,⟨by decide,by simp,.inl (.same .nilS),.inl (.same .nilS),.inl (.same .nilS),.inl (.same .nilS),trivial⟩,trivial⟩
 ·skip
  simp only [estK,zD 2 n0,zq 2 n0,zD 3 z0,zq 3 z0]
  refine AXa.fz2 [2,3] [(1,[.fs (strs _) _,.fs (strs _) _,.nilS,.nilS]),(0,[.nilS,.nilS,.nilS,.nilS])] hW h0 rfl ?_ ?_ hx
  ·simp only [zf2,ziL,e1,e2,e4,e6,zjU,zwu,zmS]
   exact⟨.inl trivial,.inl ⟨trivial,hpc⟩,.inl (by simp),.inl (by simp),trivial⟩
  ·exact⟨⟨by decide,by simp,.inr (FrzF.slp (by simp) rfl rfl (by simp [strs]) (by rw [List.drop_zero,Nat.mul_one,za5,List.take_length]) (zV _)),.inr (FrzF.slp (by simp) rfl rfl (by simp [strs]) (by rw [List.drop_zero,Nat.mul_one,za5,List.take_length]) (zV _)),.inl (.same .nilS),.inl (.same .nilS),trivial⟩,⟨by decide,by simp,.inl (.same .nilS),.inl (.same .nilS),.inl (.same .nilS),.inl (.same .nilS),trivial⟩,trivial⟩
theorem zes {A B:List Ent}(h:zct A B=true):zcD A∧zcD B:=by
 unfold zct vB at h;simp only [Bool.and_eq_true]at h;have key:∀ {q:Str→Bool} {l:List Ent},l.all (zcH q)=true→zcD l:=fun hl e he=>by have:=List.all_eq_true.1 hl e he;unfold zcH at this;simp at this;omega
 exact⟨key h.1.1.2,key h.2.1.2⟩
theorem za1(a:List (List Str))(x:List Str):zbM a++[.fs (strs x) x.length]=zbM (a++[x]):=by unfold zbM Row.cells;simp [rowR]
theorem zab(m:List (List Str)):(zbM m).all V.one=true:=by refine List.all_eq_true.2 fun x hx=>?_;unfold zbM Row.cells at hx;obtain⟨a,_,ha⟩:=List.mem_flatMap.1 hx;simp only [rowR,List.mem_cons,List.not_mem_nil,or_false]at ha;subst ha;rfl
theorem zB {m:List (List Str)}(i:Nat)(h:m.length=i):(zbM m).take i=zbM m:=List.take_of_length_le (by rw [za7];omega)
def slM(b:Nat)(l:List (List Str)):V:=match l with|[]=>.nilS|_=>.sl b 0 l.length 1 none
def blkM(b:Nat)(l:List (List Str))(bs:List (Nat×Blk)):List (Nat×Blk):=match l with|[]=>bs|_=>(b,.cells (zbM l))::bs
theorem zcU(b:Nat):slM b []=.nilS:=rfl
theorem zb8(b:Nat)(bs:List (Nat×Blk)):blkM b [] bs=bs:=rfl
theorem zbt(b:Nat){l:List (List Str)}(h:l≠[]):slM b l=.sl b 0 l.length 1 none:=by cases l with|nil=>exact absurd rfl h|cons e l=>rfl
theorem zaX(b:Nat){l:List (List Str)}(h:l≠[])(bs:List (Nat×Blk)):blkM b l bs=(b,.cells (zbM l))::bs:=by cases l with|nil=>exact absurd rfl h|cons e l=>rfl
def znk(T W:List Str)(N E:List (List Str)):Hp:=⟨blkM 3 E (blkM 2 N [(1,.cells [.fs (strs T) T.length,.fs (strs W) W.length,slM 2 N,slM 3 E]),(0,.cells [.nilS,.nilS,.nilS,.nilS])]),4⟩
def upR(r:Nat→Int×List Str)(i:Nat):List (List Str):=(List.range i).map fun j=>(r j).2
theorem zhi(r:Nat→Int×List Str):upR r 0=[]:=rfl
theorem zcm(r:Nat→Int×List Str)(i:Nat):upR r (i+1)=upR r i++[(r i).2]:=by simp [upR,List.range_succ]
theorem zd8 {T W:List Str}{rN rE:Nat→Int×List Str}(h:okR rN rE T.length)(h0:(rN T.length).1=0):estG T W rN rE=(⟨T,W,upR rN (T.length+1),upR rE T.length⟩,0):=estG_ok h h0
theorem zbT(r:Nat→Int×List Str)(i:Nat):(upR r i).length=i:=by simp [upR]
theorem zcc(r:Nat→Int×List Str){i:Nat}(h:0<i):upR r i≠[]:=by intro e;have:=congrArg List.length e;rw [zbT]at this;simp at this;omega
theorem zl0(T:List Str):(T++[[]]).getD T.length []=[]:=by simp
theorem getD_in(T:List Str){i:Nat}(h:i<T.length):(T++[[]]).getD i []=T.getD i []:=by rw [List.getD_eq_getElem?_getD,List.getElem?_append_left h,List.getD_eq_getElem?_getD]
set_option maxHeartbeats 16000000 in
set_option maxRecDepth 100000 in
theorem rest_ok(A B:List Ent)(k:Str)(hA:A.length≤100000)(hB:B.length≤100000)(sA:zaG A)(sB:zaG B)(lk:k.length≤1000000):
 PCall Tryz.prog 14 [.agg [.fs (cnts A) A.length,.fs (cnts B) B.length],.str k] (.ret (estV (estR A B k))):=by
 have hΓ:=zf zu9 (zf zqk (zf cRRow_ok zh))
 have v3:zmf [.str k]=some (.ret (.bool (ratP k).isSome)):=zql k (by omega)
 refine PCall.walk (rs:=[.cell 4 28,.tmp 5]) [0,1,2,4,5,6,7,8,9,10,11,12,25,31,58,90,96,103,120,132,144] [24] mixed (hΓ) (zgV) call14 Tryz.func14 rfl Tryz.ntmps14 rfl (by kernel_rfl) (by simp) (by simp [push_cast]) ?_
 cases hv:zct A B with
 |false=>
  have hr:estR A B k=(noM,1):=by unfold estR;rw [hv];rfl
  rw [hr]
  simp (disch:=first|assumption|(push_cast<;>omega)|omega) only [go_sem,hv,estV,mdlV,noM,zN]
 |true=>
 cases hp:(ratP k).isSome with
 |false=>
  have hr:estR A B k=(noM,1):=by unfold estR;rw [hv,hp];rfl
  rw [hr]
  simp (disch:=first|assumption|(push_cast<;>omega)|omega) only [go_sem,hv,v3,hp,estV,mdlV,noM,zN]
 |true=>
 obtain⟨c,k',rfl⟩:∃ c k',k=c::k':=by
  cases k with
  |nil=>rw [ratP_nil]at hp;cases hp
  |cons c k'=>exact⟨c,k',rfl⟩
 simp (disch:=first|assumption|(push_cast<;>omega)|omega) only [go_sem,hv,v3,hp]
 refine⟨by omega,?_⟩
 have hc45:(((c::k').getD 0 0).toNat:Int)=45↔c=45:=by
  rw [List.getD_cons_zero];constructor
  ·intro h;exact UInt8.toNat_inj.1 (by show c.toNat=45;omega)
  ·rintro rfl;rfl
 rw [decide_eq_decide.2 hc45]
 refine AXc.introP (fun hc=>?_) (fun hc=>?_)
 ·have hr:estR A B (c::k')=(noM,1):=by unfold estR;rw [hv,hp,hc];rfl
  rw [hr]
  simp (disch:=first|assumption|(push_cast<;>omega)|omega) only [go_sem,estV,mdlV,noM,zN]
 have hr:estR A B (c::k')=if 40<(nmS (tagL A B)).length∨500<(nmS (zaq B)).length then(noM,2)else estG (nmS (tagL A B)) (nmS (zaq B)) (rowN A (nmS (tagL A B)) (c::k')) (rowE B (nmS (tagL A B)) (nmS (zaq B)) (c::k')):=by unfold estR;rw [hv,hp,if_pos];simp [hc]
 rw [hr]
 clear hr
 generalize c::k'=k at*
 have t0:tN A 0=[]:=rfl
 have pAB:∀ x∈[V.fs (cnts A) A.length,V.fs (cnts B) B.length],Pure x:=by
  intro x hx;simp only [List.mem_cons,List.not_mem_nil,or_false]at hx;rcases hx with rfl|rfl
  ·exact .fs (zcv A)
  ·exact .fs (zcv B)
 simp (disch:=first|assumption|(push_cast<;>omega)|omega) only [go_sem]
 refine AXs.loop mixed (hΓ) (zgV) (fun i:Nat=>[(1,.str k),(2,.fp [.fs (cnts A) A.length,.fs (cnts B) B.length]),(4,.ptr 0 0),(6,.ptr 1 0),(7,.int .i64 i)])
  (fun i=>estK (tN A i,[])) (fun i=>i≤A.length) (fun i=>A.length - i) 0 (by kernel_rfl) (Nat.zero_le _) (Sub.of0 [] rfl rfl ?_ ?_) ?_
 ·simp only [go_sem]
  exact pAB
 ·simp only [go_sem,estK,t0,zQ,zF]
 intro i h1
 simp (disch:=first|assumption|(push_cast<;>omega)|omega) only [go_sem,estK,zQ,zF]
 refine AXc.introP (fun h3=>?_) (fun h3=>?_)
 ·have hi:i<A.length:=by omega
  have at1:=zci A i hi
  obtain⟨sh1,sh2⟩:=zgv sA i
  have ok1:=tN_ok hA sA i
  have ok2:=tN_ok2 hA sA i
  have hst:=tN_step A i hi
  have fin:∀ {s:St} {C:Cfg} {K:Out→St→Prop},Sub C s ⟨[(1,.str k),(2,.fp [.fs (cnts A) A.length,.fs (cnts B) B.length]),(4,.ptr 0 0),(6,.ptr 1 0),(7,.int .i64 (i+1))],estK (tN A (i+1),[])⟩→
   zvE C Nat (fun i:Nat=>⟨[(1,.str k),(2,.fp [.fs (cnts A) A.length,.fs (cnts B) B.length]),(4,.ptr 0 0),(6,.ptr 1 0),(7,.int .i64 i)],estK (tN A i,[])⟩) (fun i=>i≤A.length) (fun i=>A.length - i) i K .norm s:=
   fun hs=>zi (i+1) (by omega) (by omega) hs
  rw [hst]at fin
  generalize tN A i=T at ok1 ok2 fin ⊢
  rcases four T (nthE A i).1.1 with⟨n0,s0⟩|⟨n0,s0⟩|⟨n0,s0⟩|⟨n0,s0⟩
  ·subst n0
   rw [zoE s0]at fin ok2
   rcases four [] (nthE A i).1.2 with⟨m0,q0⟩|⟨m0,q0⟩|⟨m0,q0⟩|⟨m0,q0⟩
   rotate_left 2
   ·exact absurd rfl m0
   ·exact absurd rfl m0
   ·rw [zoE q0]at fin
    simp (config:={ maxSteps:=2000000 }) (disch:=first|assumption|(push_cast<;>omega)|(with_unfolding_all exact id rfl)|omega) only [go_sem,at1,zQ,zF,zZ,zY,zaJ,zaL,zaK]
    (repeat refine sdC ?_)
    simp (config:={ maxSteps:=2000000 }) (disch:=first|assumption|(push_cast<;>omega)|(with_unfolding_all exact id rfl)|omega) only [go_sem,at1,zQ,zF,zZ,zY,zaJ,zaL,zaK]
    (repeat refine sdC ?_)
    simp only [go_sem]
    refine fin ?_
    simp only [estK,zQ,zF]
    refine Sub.of0 [] rfl rfl ?_ ?_
    ·simp (disch:=first|assumption|(push_cast<;>omega)|omega) only [go_sem]
     exact pAB
    ·simp only [go_sem]
   ·rw [zdO q0]at fin
    simp (config:={ maxSteps:=2000000 }) (disch:=first|assumption|(push_cast<;>omega)|(with_unfolding_all exact id rfl)|omega) only [go_sem,at1,zQ,zF,zZ,zY,zaJ,zaL,zaK]
    (repeat refine sdC ?_)
    simp (config:={ maxSteps:=2000000 }) (disch:=first|assumption|(push_cast<;>omega)|(with_unfolding_all exact id rfl)|omega) only [go_sem,at1,zQ,zF,zZ,zY,zaJ,zaL,zaK]
    (repeat refine sdC ?_)
    simp only [go_sem]
    refine fin ?_
    simp only [estK,zQ,zF,zD 2 (List.cons_ne_nil _ _),zq 2 (List.cons_ne_nil _ _)]
    refine Sub.of0 [(2,4)] rfl rfl ?_ ?_
    ·simp (disch:=first|assumption|(push_cast<;>omega)|omega) only [go_sem]
     exact pAB
    ·simp only [go_sem]
  ·subst n0
   rw [zdO s0]at fin ok2
   have ne1:[(nthE A i).1.1]≠[]:=List.cons_ne_nil _ _
   rcases four [(nthE A i).1.1] (nthE A i).1.2 with⟨m0,q0⟩|⟨m0,q0⟩|⟨m0,q0⟩|⟨m0,q0⟩
   ·exact absurd m0 ne1
   ·exact absurd m0 ne1
   ·rw [zdm ok2.2.1 q0]at fin
    simp (config:={ maxSteps:=2000000 }) (disch:=first|assumption|(push_cast<;>omega)|(with_unfolding_all exact id rfl)|omega) only [go_sem,at1,zQ,zF,zZ,zY,zaJ,zaL,zaK]
    (repeat refine sdC ?_)
    simp (config:={ maxSteps:=2000000 }) (disch:=first|assumption|(push_cast<;>omega)|(with_unfolding_all exact id rfl)|omega) only [go_sem,at1,zQ,zF,zZ,zY,zaJ,zaL,zaK]
    (repeat refine sdC ?_)
    simp only [go_sem]
    refine fin ?_
    simp only [estK,zQ,zF,zD 2 ne1,zq 2 ne1]
    refine Sub.of0 [(2,4)] rfl rfl ?_ ?_
    ·simp (disch:=first|assumption|(push_cast<;>omega)|omega) only [go_sem]
     exact pAB
    ·simp only [go_sem]
   ·have ne2:=zgT (s:=(nthE A i).1.2) (.inl ne1)
    simp (config:={ maxSteps:=2000000 }) (disch:=first|assumption|(push_cast<;>omega)|(with_unfolding_all exact id rfl)|omega) only [go_sem,at1,zQ,zF,zZ,zY,zaJ,zaL,zaK]
    (repeat refine sdC ?_)
    simp (config:={ maxSteps:=2000000 }) (disch:=first|assumption|(push_cast<;>omega)|(with_unfolding_all exact id rfl)|omega) only [go_sem,at1,zQ,zF,zZ,zY,zaJ,zaL,zaK]
    (repeat refine sdC ?_)
    simp only [go_sem]
    refine fin ?_
    simp only [estK,zQ,zF,zD 2 ne2,zq 2 ne2]
    refine Sub.of0 [(2,5)] rfl rfl ?_ ?_
    ·simp (disch:=first|assumption|(push_cast<;>omega)|omega) only [go_sem]
     exact pAB
    ·simp only [go_sem]
  ·rw [zdm ok1.2.1 s0]at fin ok2
   rcases four T (nthE A i).1.2 with⟨m0,q0⟩|⟨m0,q0⟩|⟨m0,q0⟩|⟨m0,q0⟩
   ·exact absurd m0 n0
   ·exact absurd m0 n0
   ·rw [zdm ok1.2.1 q0]at fin
    simp (config:={ maxSteps:=2000000 }) (disch:=first|assumption|(push_cast<;>omega)|(with_unfolding_all exact id rfl)|omega) only [go_sem,at1,zD 2 n0,zq 2 n0,zZ,zY,zaJ,zaL,zaK]
    (repeat refine sdC ?_)
    simp (config:={ maxSteps:=2000000 }) (disch:=first|assumption|(push_cast<;>omega)|(with_unfolding_all exact id rfl)|omega) only [go_sem,at1,zZ,zY,zaJ,zaL,zaK]
    (repeat refine sdC ?_)
    simp only [go_sem]
    refine fin ?_
    simp only [estK,zQ,zF,zD 2 n0,zq 2 n0]
    refine Sub.of0 [] rfl rfl ?_ ?_
    ·simp (disch:=first|assumption|(push_cast<;>omega)|omega) only [go_sem]
     exact pAB
    ·simp only [go_sem]
   ·have ne2:=zgT (s:=(nthE A i).1.2) (.inl n0)
    simp (config:={ maxSteps:=2000000 }) (disch:=first|assumption|(push_cast<;>omega)|(with_unfolding_all exact id rfl)|omega) only [go_sem,at1,zD 2 n0,zq 2 n0,zZ,zY,zaJ,zaL,zaK]
    (repeat refine sdC ?_)
    simp (config:={ maxSteps:=2000000 }) (disch:=first|assumption|(push_cast<;>omega)|(with_unfolding_all exact id rfl)|omega) only [go_sem,at1,zZ,zY,zaJ,zaL,zaK]
    (repeat refine sdC ?_)
    simp only [go_sem]
    refine fin ?_
    simp only [estK,zQ,zF,zD 2 ne2,zq 2 ne2]
    refine Sub.of0 [(2,4)] rfl rfl ?_ ?_
    ·simp (disch:=first|assumption|(push_cast<;>omega)|omega) only [go_sem]
     exact pAB
    ·simp only [go_sem]
  ·have ne1:=zgT (s:=(nthE A i).1.1) (.inl n0)
   rcases four (addS T (nthE A i).1.1) (nthE A i).1.2 with⟨m0,q0⟩|⟨m0,q0⟩|⟨m0,q0⟩|⟨m0,q0⟩
   ·exact absurd m0 ne1
   ·exact absurd m0 ne1
   ·rw [zdm ok2.2.1 q0]at fin
    simp (config:={ maxSteps:=2000000 }) (disch:=first|assumption|(push_cast<;>omega)|(with_unfolding_all exact id rfl)|omega) only [go_sem,at1,zD 2 n0,zq 2 n0,zZ,zY,zaJ,zaL,zaK]
    (repeat refine sdC ?_)
    simp (config:={ maxSteps:=2000000 }) (disch:=first|assumption|(push_cast<;>omega)|(with_unfolding_all exact id rfl)|omega) only [go_sem,at1,zZ,zY,zaJ,zaL,zaK]
    (repeat refine sdC ?_)
    simp only [go_sem]
    refine fin ?_
    simp only [estK,zQ,zF,zD 2 ne1,zq 2 ne1]
    refine Sub.of0 [(2,4)] rfl rfl ?_ ?_
    ·simp (disch:=first|assumption|(push_cast<;>omega)|omega) only [go_sem]
     exact pAB
    ·simp only [go_sem]
   ·have ne2:=zgT (s:=(nthE A i).1.2) (.inl ne1)
    simp (config:={ maxSteps:=2000000 }) (disch:=first|assumption|(push_cast<;>omega)|(with_unfolding_all exact id rfl)|omega) only [go_sem,at1,zD 2 n0,zq 2 n0,zZ,zY,zaJ,zaL,zaK]
    (repeat refine sdC ?_)
    simp (config:={ maxSteps:=2000000 }) (disch:=first|assumption|(push_cast<;>omega)|(with_unfolding_all exact id rfl)|omega) only [go_sem,at1,zZ,zY,zaJ,zaL,zaK]
    (repeat refine sdC ?_)
    simp only [go_sem]
    refine fin ?_
    simp only [estK,zQ,zF,zD 2 ne2,zq 2 ne2]
    refine Sub.of0 [(2,5)] rfl rfl ?_ ?_
    ·simp (disch:=first|assumption|(push_cast<;>omega)|omega) only [go_sem]
     exact pAB
    ·simp only [go_sem]
 obtain rfl:i=A.length:=by omega
 simp only [go_sem]
 refine AXa.go mixed (hΓ) (zgV) (by kernel_rfl) ?_
 simp (disch:=first|assumption|(push_cast<;>omega)|omega) only [go_sem]
 refine AXs.loop mixed (hΓ) (zgV) (fun i:Nat=>[(1,.str k),(2,.fp [.fs (cnts A) A.length,.fs (cnts B) B.length]),(4,.ptr 0 0),(6,.ptr 1 0),(8,.int .i64 i)])
  (fun i=>estK (tE A B i,wE B i)) (fun i=>i≤B.length) (fun i=>B.length - i) 0 (by kernel_rfl) (Nat.zero_le _) ?_ ?_
 ·have h0:estK (tE A B 0,wE B 0)=estK (tN A A.length,[]):=by rw [tE_zero];rfl
  rw [h0]
  refine sub_estK rfl (tN A A.length,[]) ?_
  simp only [go_sem]
  exact pAB
 intro i h1
 have tok:=tE_ok hA hB sA sB i
 have wok1:=wE_ok hB sB i
 by_cases h3:i<B.length
 ·have at1:=zci B i h3
  obtain⟨sh1,sh2⟩:=zgv sB i
  obtain⟨na,nb⟩:=zvU hv h3
  have hst:=tE_step A B i h3
  have hsw:=wE_step B i h3
  have e1:decide ((i:Int)<(B.length:Int))=true:=decide_eq_true (by omega)
  have fin:∀ {s:St} {C:Cfg} {K:Out→St→Prop},Sub C s ⟨[(1,.str k),(2,.fp [.fs (cnts A) A.length,.fs (cnts B) B.length]),(4,.ptr 0 0),(6,.ptr 1 0),(8,.int .i64 (i+1))],estK (tE A B (i+1),wE B (i+1))⟩→
   zvE C Nat (fun i:Nat=>⟨[(1,.str k),(2,.fp [.fs (cnts A) A.length,.fs (cnts B) B.length]),(4,.ptr 0 0),(6,.ptr 1 0),(8,.int .i64 i)],estK (tE A B i,wE B i)⟩) (fun i=>i≤B.length) (fun i=>B.length - i) i K .norm s:=
   fun hs=>zi (i+1) (by omega) (by omega) hs
  rw [hst,hsw]at fin
  have ne1:=zgT (l:=tE A B i) (.inr na)
  have ne2:=zgT (l:=wE B i) (.inr nb)
  generalize tE A B i=T at tok fin ne1 ⊢
  generalize wE B i=W at wok1 fin ne2 ⊢
  rcases four T (nthE B i).1.1 with⟨n0,s0⟩|⟨n0,s0⟩|⟨n0,s0⟩|⟨n0,s0⟩
  ·exact absurd s0 na
  ·subst n0
   rw [zdO na]at fin ne1
   rcases four W (nthE B i).1.2 with⟨m0,q0⟩|⟨m0,q0⟩|⟨m0,q0⟩|⟨m0,q0⟩
   ·exact absurd q0 nb
   ·subst m0
    rw [zdO nb]at fin ne2
    simp (config:={ maxSteps:=2000000 }) (disch:=first|assumption|(push_cast<;>omega)|(with_unfolding_all exact id rfl)|omega) only [go_sem,at1,e1,estK,zQ,zF,zZ,zY,zaJ,zaL,zaK]
    (repeat refine sdC ?_)
    simp (config:={ maxSteps:=2000000 }) (disch:=first|assumption|(push_cast<;>omega)|(with_unfolding_all exact id rfl)|omega) only [go_sem,at1,e1,estK,zQ,zF,zZ,zY,zaJ,zaL,zaK]
    (repeat refine sdC ?_)
    simp only [go_sem]
    refine fin ?_
    simp only [estK,zD 2 ne1,zq 2 ne1,zD 3 ne2,zq 3 ne2]
    refine Sub.of0 [(2,4),(3,5)] rfl rfl ?_ ?_
    ·simp (disch:=first|assumption|(push_cast<;>omega)|omega) only [go_sem]
     exact pAB
    ·simp only [go_sem]
   ·rw [zdm wok1.2.1 q0]at fin ne2
    simp (config:={ maxSteps:=2000000 }) (disch:=first|assumption|(push_cast<;>omega)|(with_unfolding_all exact id rfl)|omega) only [go_sem,at1,e1,estK,zQ,zF,zD 3 m0,zq 3 m0,zZ,zY,zaJ,zaL,zaK]
    (repeat refine sdC ?_)
    simp (config:={ maxSteps:=2000000 }) (disch:=first|assumption|(push_cast<;>omega)|(with_unfolding_all exact id rfl)|omega) only [go_sem,at1,e1,estK,zQ,zF,zD 3 m0,zq 3 m0,zZ,zY,zaJ,zaL,zaK]
    (repeat refine sdC ?_)
    simp only [go_sem]
    refine fin ?_
    simp only [estK,zD 2 ne1,zq 2 ne1,zD 3 ne2,zq 3 ne2]
    refine Sub.of0 [(2,4)] rfl rfl ?_ ?_
    ·simp (disch:=first|assumption|(push_cast<;>omega)|omega) only [go_sem]
     exact pAB
    ·simp only [go_sem]
   ·skip
    simp (config:={ maxSteps:=2000000 }) (disch:=first|assumption|(push_cast<;>omega)|(with_unfolding_all exact id rfl)|omega) only [go_sem,at1,e1,estK,zQ,zF,zD 3 m0,zq 3 m0,zZ,zY,zaJ,zaL,zaK]
    (repeat refine sdC ?_)
    simp (config:={ maxSteps:=2000000 }) (disch:=first|assumption|(push_cast<;>omega)|(with_unfolding_all exact id rfl)|omega) only [go_sem,at1,e1,estK,zQ,zF,zD 3 m0,zq 3 m0,zZ,zY,zaJ,zaL,zaK]
    (repeat refine sdC ?_)
    simp only [go_sem]
    refine fin ?_
    simp only [estK,zD 2 ne1,zq 2 ne1,zD 3 ne2,zq 3 ne2]
    refine Sub.of0 [(2,4),(3,5)] rfl rfl ?_ ?_
    ·simp (disch:=first|assumption|(push_cast<;>omega)|omega) only [go_sem]
     exact pAB
    ·simp only [go_sem]
  ·rw [zdm tok.2.1 s0]at fin ne1
   rcases four W (nthE B i).1.2 with⟨m0,q0⟩|⟨m0,q0⟩|⟨m0,q0⟩|⟨m0,q0⟩
   ·exact absurd q0 nb
   ·subst m0
    rw [zdO nb]at fin ne2
    simp (config:={ maxSteps:=2000000 }) (disch:=first|assumption|(push_cast<;>omega)|(with_unfolding_all exact id rfl)|omega) only [go_sem,at1,e1,estK,zQ,zF,zD 2 n0,zq 2 n0,zZ,zY,zaJ,zaL,zaK]
    (repeat refine sdC ?_)
    simp (config:={ maxSteps:=2000000 }) (disch:=first|assumption|(push_cast<;>omega)|(with_unfolding_all exact id rfl)|omega) only [go_sem,at1,e1,estK,zQ,zF,zD 2 n0,zq 2 n0,zZ,zY,zaJ,zaL,zaK]
    (repeat refine sdC ?_)
    simp only [go_sem]
    refine fin ?_
    simp only [estK,zD 2 ne1,zq 2 ne1,zD 3 ne2,zq 3 ne2]
    refine Sub.of0 [(3,4)] rfl rfl ?_ ?_
    ·simp (disch:=first|assumption|(push_cast<;>omega)|omega) only [go_sem]
     exact pAB
    ·simp only [go_sem]
   ·rw [zdm wok1.2.1 q0]at fin ne2
    simp (config:={ maxSteps:=2000000 }) (disch:=first|assumption|(push_cast<;>omega)|(with_unfolding_all exact id rfl)|omega) only [go_sem,at1,e1,estK,zQ,zF,zD 2 n0,zq 2 n0,zD 3 m0,zq 3 m0,zZ,zY,zaJ,zaL,zaK]
    (repeat refine sdC ?_)
    simp (config:={ maxSteps:=2000000 }) (disch:=first|assumption|(push_cast<;>omega)|(with_unfolding_all exact id rfl)|omega) only [go_sem,at1,e1,estK,zQ,zF,zD 2 n0,zq 2 n0,zD 3 m0,zq 3 m0,zZ,zY,zaJ,zaL,zaK]
    (repeat refine sdC ?_)
    simp only [go_sem]
    refine fin ?_
    simp only [estK,zD 2 ne1,zq 2 ne1,zD 3 ne2,zq 3 ne2]
    refine Sub.of0 [] rfl rfl ?_ ?_
    ·simp (disch:=first|assumption|(push_cast<;>omega)|omega) only [go_sem]
     exact pAB
    ·simp only [go_sem]
   ·skip
    simp (config:={ maxSteps:=2000000 }) (disch:=first|assumption|(push_cast<;>omega)|(with_unfolding_all exact id rfl)|omega) only [go_sem,at1,e1,estK,zQ,zF,zD 2 n0,zq 2 n0,zD 3 m0,zq 3 m0,zZ,zY,zaJ,zaL,zaK]
    (repeat refine sdC ?_)
    simp (config:={ maxSteps:=2000000 }) (disch:=first|assumption|(push_cast<;>omega)|(with_unfolding_all exact id rfl)|omega) only [go_sem,at1,e1,estK,zQ,zF,zD 2 n0,zq 2 n0,zD 3 m0,zq 3 m0,zZ,zY,zaJ,zaL,zaK]
    (repeat refine sdC ?_)
    simp only [go_sem]
    refine fin ?_
    simp only [estK,zD 2 ne1,zq 2 ne1,zD 3 ne2,zq 3 ne2]
    refine Sub.of0 [(3,4)] rfl rfl ?_ ?_
    ·simp (disch:=first|assumption|(push_cast<;>omega)|omega) only [go_sem]
     exact pAB
    ·simp only [go_sem]
  ·skip
   rcases four W (nthE B i).1.2 with⟨m0,q0⟩|⟨m0,q0⟩|⟨m0,q0⟩|⟨m0,q0⟩
   ·exact absurd q0 nb
   ·subst m0
    rw [zdO nb]at fin ne2
    simp (config:={ maxSteps:=2000000 }) (disch:=first|assumption|(push_cast<;>omega)|(with_unfolding_all exact id rfl)|omega) only [go_sem,at1,e1,estK,zQ,zF,zD 2 n0,zq 2 n0,zZ,zY,zaJ,zaL,zaK]
    (repeat refine sdC ?_)
    simp (config:={ maxSteps:=2000000 }) (disch:=first|assumption|(push_cast<;>omega)|(with_unfolding_all exact id rfl)|omega) only [go_sem,at1,e1,estK,zQ,zF,zD 2 n0,zq 2 n0,zZ,zY,zaJ,zaL,zaK]
    (repeat refine sdC ?_)
    simp only [go_sem]
    refine fin ?_
    simp only [estK,zD 2 ne1,zq 2 ne1,zD 3 ne2,zq 3 ne2]
    refine Sub.of0 [(2,4),(3,5)] rfl rfl ?_ ?_
    ·simp (disch:=first|assumption|(push_cast<;>omega)|omega) only [go_sem]
     exact pAB
    ·simp only [go_sem]
   ·rw [zdm wok1.2.1 q0]at fin ne2
    simp (config:={ maxSteps:=2000000 }) (disch:=first|assumption|(push_cast<;>omega)|(with_unfolding_all exact id rfl)|omega) only [go_sem,at1,e1,estK,zQ,zF,zD 2 n0,zq 2 n0,zD 3 m0,zq 3 m0,zZ,zY,zaJ,zaL,zaK]
    (repeat refine sdC ?_)
    simp (config:={ maxSteps:=2000000 }) (disch:=first|assumption|(push_cast<;>omega)|(with_unfolding_all exact id rfl)|omega) only [go_sem,at1,e1,estK,zQ,zF,zD 2 n0,zq 2 n0,zD 3 m0,zq 3 m0,zZ,zY,zaJ,zaL,zaK]
    (repeat refine sdC ?_)
    simp only [go_sem]
    refine fin ?_
    simp only [estK,zD 2 ne1,zq 2 ne1,zD 3 ne2,zq 3 ne2]
    refine Sub.of0 [(2,4)] rfl rfl ?_ ?_
    ·simp (disch:=first|assumption|(push_cast<;>omega)|omega) only [go_sem]
     exact pAB
    ·simp only [go_sem]
   ·skip
    simp (config:={ maxSteps:=2000000 }) (disch:=first|assumption|(push_cast<;>omega)|(with_unfolding_all exact id rfl)|omega) only [go_sem,at1,e1,estK,zQ,zF,zD 2 n0,zq 2 n0,zD 3 m0,zq 3 m0,zZ,zY,zaJ,zaL,zaK]
    (repeat refine sdC ?_)
    simp (config:={ maxSteps:=2000000 }) (disch:=first|assumption|(push_cast<;>omega)|(with_unfolding_all exact id rfl)|omega) only [go_sem,at1,e1,estK,zQ,zF,zD 2 n0,zq 2 n0,zD 3 m0,zq 3 m0,zZ,zY,zaJ,zaL,zaK]
    (repeat refine sdC ?_)
    simp only [go_sem]
    refine fin ?_
    simp only [estK,zD 2 ne1,zq 2 ne1,zD 3 ne2,zq 3 ne2]
    refine Sub.of0 [(2,4),(3,5)] rfl rfl ?_ ?_
    ·simp (disch:=first|assumption|(push_cast<;>omega)|omega) only [go_sem]
     exact pAB
    ·simp only [go_sem]
 obtain rfl:i=B.length:=by omega
 have e1:decide ((B.length:Int)<(B.length:Int))=false:=decide_eq_false (by omega)
 rw [←tE_all A B, ←wE_all B]
 generalize tE A B B.length=T at tok ⊢
 generalize wE B B.length=W at wok1 ⊢
 simp (disch:=first|assumption|(push_cast<;>omega)|omega) only [go_sem,e1]
 refine fz_est T W rfl rfl rfl rfl pAB rfl rfl ?_
 refine AXa.go mixed (hΓ) (zgV) (by kernel_rfl) ?_
 simp (disch:=first|assumption|(push_cast<;>omega)|omega) only [go_sem]
 by_cases hbig:40<T.length∨500<W.length
 ·have hb:(decide (40<(T.length:Int))||decide (500<(W.length:Int)))=true:=by
   simp only [Bool.or_eq_true,decide_eq_true_eq];omega
  rw [hb,if_pos hbig]
  simp (disch:=first|assumption|(push_cast<;>omega)|omega) only [go_sem,estV,mdlV,noM,zN]
 have hb:(decide (40<(T.length:Int))||decide (500<(W.length:Int)))=false:=by simp only [Bool.or_eq_false_iff,decide_eq_false_iff_not];omega
 rw [hb,if_neg hbig]
 have hTl:T.length≤40:=by omega
 have hWl:W.length≤500:=by omega
 obtain⟨smA,smB⟩:=zes hv
 have hN:∀ i,cRRow [.fs (cnts A) A.length,.str ((T++[[]]).getD i []),.fs (strs T) T.length,.str k]=some (.ret (.tup [.fs (strs (rowN A T k i).2) (rowN A T k i).2.length,.int .i64 (rowN A T k i).1])):=fun i=>by rw [zr0 A _ T k (by omega) (by omega) smA (by omega)];rfl
 have hE:∀ i,cRRow [.fs (cnts B) B.length,.str ((T++[[]]).getD i []),.fs (strs W) W.length,.str k]=some (.ret (.tup [.fs (strs (rowE B T W k i).2) (rowE B T W k i).2.length,.int .i64 (rowE B T W k i).1])):=fun i=>by rw [zr0 B _ W k (by omega) (by omega) smB (by omega)];rfl
 generalize rowN A T k=rN at hN ⊢
 generalize rowE B T W k=rE at hE ⊢
 simp (disch:=first|assumption|(push_cast<;>omega)|omega) only [go_sem]
 refine AXs.loop mixed (hΓ) (zgV) (fun i:Nat=>[(1,.str k),(2,.fp [.fs (cnts A) A.length,.fs (cnts B) B.length]),(4,.ptr 0 0),(6,.ptr 1 0),(9,.int .i64 i)])
  (fun i=>znk T W (upR rN i) (upR rE i)) (fun i=>i≤T.length∧okR rN rE i) (fun i=>T.length - i) 0 (by kernel_rfl) ⟨Nat.zero_le _,fun j hj=>absurd hj (Nat.not_lt_zero j),fun j hj=>absurd hj (Nat.not_lt_zero j)⟩ (Sub.of0 [] rfl rfl ?_ ?_) ?_
 ·simp only [go_sem]
  exact pAB
 ·simp only [go_sem,znk,zhi,zcU,zb8]
 rintro i ⟨h1,hok⟩
 have ln:=zbT rN i
 have le:=zbT rE i
 by_cases hi:i<T.length
 ·have hNi:=hN i
  have hEi:=hE i
  rw [getD_in T hi]at hNi hEi
  have un:=zcm rN i
  have ue:=zcm rE i
  have e2:decide ((i:Int)≤(T.length:Int))=true:=decide_eq_true (by omega)
  have e3:decide ((i:Int)<(T.length:Int))=true:=decide_eq_true (by omega)
  have e4:decide ((i:Int)=(T.length:Int))=false:=decide_eq_false (by omega)
  by_cases i0:i=0
  ·have un0:upR rN i=[]:=by rw [i0];rfl
   have ue0:upR rE i=[]:=by rw [i0];rfl
   rw [un0,List.nil_append]at un
   rw [ue0,List.nil_append]at ue
   have un':upR rN (i+1)≠[]:=by rw [un];exact List.cons_ne_nil _ _
   have ue':upR rE (i+1)≠[]:=by rw [ue];exact List.cons_ne_nil _ _
   have ln':(upR rN (i+1)).length=1:=by rw [un];rfl
   have le':(upR rE (i+1)).length=1:=by rw [ue];rfl
   simp (disch:=first|assumption|(push_cast<;>omega)|omega) only [go_sem,znk,un0,ue0,zcU,zb8,e2,e3,hNi]
   (repeat refine sdC ?_)
   refine AXc.introN (fun h5=>?_) (fun h5=>?_)
   ·rw [zaV fun h=>h5 (h.1.1 i hi)]
    simp (disch:=first|assumption|(push_cast<;>omega)|omega) only [go_sem,estV,mdlV,noM,zN]
   simp (disch:=first|assumption|(push_cast<;>omega)|omega) only [go_sem,e4,hEi,zab,zB i ln]
   (repeat refine sdC ?_)
   refine AXc.introN (fun h6=>?_) (fun h6=>?_)
   ·rw [zaV fun h=>h6 (h.1.2 i hi)]
    simp (disch:=first|assumption|(push_cast<;>omega)|omega) only [go_sem,estV,mdlV,noM,zN]
   simp (disch:=first|assumption|(push_cast<;>omega)|omega) only [go_sem,zab,zB i le]
   (repeat refine sdC ?_)
   refine zi (i+1) ⟨by omega,fun j hj=>?_,fun j hj=>?_⟩ (by omega) ?_
   ·rcases Nat.lt_or_ge j i with hji|hji
    ·exact hok.1 j hji
    ·obtain rfl:j=i:=by omega
     simpa using h5
   ·rcases Nat.lt_or_ge j i with hji|hji
    ·exact hok.2 j hji
    ·obtain rfl:j=i:=by omega
     simpa using h6
   ·simp only [znk,zbt 2 un',zbt 3 ue',zaX 2 un',zaX 3 ue',ln',le']
    refine Sub.of0 [(2,5),(3,7)] rfl rfl ?_ ?_
    ·simp (disch:=first|assumption|(push_cast<;>omega)|omega) only [go_sem]
     exact⟨pAB,by simp⟩
    ·rw [un,ue]
     simp only [go_sem]
     exact⟨zu (zU _),zu (zU _)⟩
  ·have nn:=zcc rN (i:=i) (by omega)
   have ne:=zcc rE (i:=i) (by omega)
   have un':=zcc rN (i:=i+1) (by omega)
   have ue':=zcc rE (i:=i+1) (by omega)
   have ln':(upR rN (i+1)).length=i+1:=zbT _ _
   have le':(upR rE (i+1)).length=i+1:=zbT _ _
   simp (disch:=first|assumption|(push_cast<;>omega)|omega) only [go_sem,znk,zbt 2 nn,zbt 3 ne,zaX 2 nn,zaX 3 ne,ln,le,e2,e3,hNi]
   (repeat refine sdC ?_)
   refine AXc.introN (fun h5=>?_) (fun h5=>?_)
   ·rw [zaV fun h=>h5 (h.1.1 i hi)]
    simp (disch:=first|assumption|(push_cast<;>omega)|omega) only [go_sem,estV,mdlV,noM,zN]
   simp (disch:=first|assumption|(push_cast<;>omega)|omega) only [go_sem,e4,hEi,zab,zB i ln]
   (repeat refine sdC ?_)
   refine AXc.introN (fun h6=>?_) (fun h6=>?_)
   ·rw [zaV fun h=>h6 (h.1.2 i hi)]
    simp (disch:=first|assumption|(push_cast<;>omega)|omega) only [go_sem,estV,mdlV,noM,zN]
   simp (disch:=first|assumption|(push_cast<;>omega)|omega) only [go_sem,zab,zB i le]
   (repeat refine sdC ?_)
   refine zi (i+1) ⟨by omega,fun j hj=>?_,fun j hj=>?_⟩ (by omega) ?_
   ·rcases Nat.lt_or_ge j i with hji|hji
    ·exact hok.1 j hji
    ·obtain rfl:j=i:=by omega
     simpa using h5
   ·rcases Nat.lt_or_ge j i with hji|hji
    ·exact hok.2 j hji
    ·obtain rfl:j=i:=by omega
     simpa using h6
   ·simp only [znk,zbt 2 un',zbt 3 ue',zaX 2 un',zaX 3 ue',ln',le']
    refine Sub.of0 [(2,5),(3,7)] rfl rfl ?_ ?_
    ·simp (disch:=first|assumption|(push_cast<;>omega)|omega) only [go_sem]
     exact⟨pAB,by simp⟩
    ·rw [un,ue]
     simp only [go_sem]
     rw [←za1, ←za1]
     exact⟨zu fun x hx=>by rw [za1]at hx;exact zU _ x hx,zu fun x hx=>by rw [za1]at hx;exact zU _ x hx⟩
 ·obtain rfl:i=T.length:=by omega
  have hNi:=hN T.length
  rw [zl0]at hNi
  have un:=zcm rN T.length
  have e2:decide ((T.length:Int)≤(T.length:Int))=true:=decide_eq_true (by omega)
  have e3:decide ((T.length:Int)<(T.length:Int))=false:=decide_eq_false (by omega)
  have e4:decide ((T.length:Int)=(T.length:Int))=true:=decide_eq_true rfl
  by_cases i0:T.length=0
  ·have un0:upR rN T.length=[]:=by rw [i0];rfl
   have ue0:upR rE T.length=[]:=by rw [i0];rfl
   rw [un0,List.nil_append]at un
   simp (disch:=first|assumption|(push_cast<;>omega)|omega) only [go_sem,znk,un0,ue0,zcU,zb8,e2,e3,hNi]
   (repeat refine sdC ?_)
   refine AXc.introN (fun h5=>?_) (fun h5=>?_)
   ·rw [zaV fun h=>h5 h.2]
    simp (disch:=first|assumption|(push_cast<;>omega)|omega) only [go_sem,estV,mdlV,noM,zN]
   have h5':(rN T.length).1=0:=by simpa using h5
   rw [zd8 hok h5',un,ue0]
   simp (disch:=first|assumption|(push_cast<;>omega)|omega) only [go_sem,e4,zab,zB T.length ln]
   (repeat refine sdC ?_)
   refine AXa.go mixed (hΓ) (zgV) (by kernel_rfl) ?_
   simp (disch:=first|assumption|(push_cast<;>omega)|omega) only [go_sem,estV,mdlV,zN]
   exact Frz.slp rfl rfl (by simp) rfl (zU _)
  ·have nn:=zcc rN (i:=T.length) (by omega)
   have ne:=zcc rE (i:=T.length) (by omega)
   simp (disch:=first|assumption|(push_cast<;>omega)|omega) only [go_sem,znk,zbt 2 nn,zbt 3 ne,zaX 2 nn,zaX 3 ne,ln,le,e2,e3,hNi]
   (repeat refine sdC ?_)
   refine AXc.introN (fun h5=>?_) (fun h5=>?_)
   ·rw [zaV fun h=>h5 h.2]
    simp (disch:=first|assumption|(push_cast<;>omega)|omega) only [go_sem,estV,mdlV,noM,zN]
   have h5':(rN T.length).1=0:=by simpa using h5
   rw [zd8 hok h5',un]
   simp (disch:=first|assumption|(push_cast<;>omega)|omega) only [go_sem,e4,zab,zB T.length ln]
   (repeat refine sdC ?_)
   refine AXa.go mixed (hΓ) (zgV) (by kernel_rfl) ?_
   simp (disch:=first|assumption|(push_cast<;>omega)|omega) only [go_sem,estV,mdlV]
   refine⟨Frz.slp rfl (by simp [ln]) (by simp [za7,ln]) ?_ (zU _),Frz.slp rfl le (by simp [za7,le]) ?_ (zU _)⟩
   ·rw [List.drop_zero,Nat.mul_one,List.take_of_length_le (by simp [za7,ln]),za1]
   ·rw [List.drop_zero,Nat.mul_one,List.take_of_length_le (by simp [za7,le])]
noncomputable def cREst:List V→Option PR:=zH (fun p:List Ent×List Ent×Str=>[.agg [.fs (cnts p.1) p.1.length,.fs (cnts p.2.1) p.2.1.length],.str p.2.2]) (fun p=>p.1.length≤100000∧p.2.1.length≤100000∧zaG p.1∧zaG p.2.1∧p.2.2.length≤1000000) fun p=>.ret (estV (estR p.1 p.2.1 p.2.2))
theorem cREst_ok:∀ args r,cREst args=some r→PCall Tryz.prog 14 args r:=zo fun p h=>rest_ok p.1 p.2.1 p.2.2 h.1 h.2.1 h.2.2.1 h.2.2.2.1 h.2.2.2.2
theorem cREst_eq(A B:List Ent)(k:Str)(hA:A.length≤100000)(hB:B.length≤100000)(sA:zaG A)(sB:zaG B)(lk:k.length≤1000000):cREst [.agg [.fs (cnts A) A.length,.fs (cnts B) B.length],.str k]=some (.ret (estV (estR A B k))):=
 zn (pat:=fun p:List Ent×List Ent×Str=>[V.agg [.fs (cnts p.1) p.1.length,.fs (cnts p.2.1) p.2.1.length],.str p.2.2]) (fun x y h=>by obtain⟨x1,x2,x3⟩:=x;obtain⟨y1,y2,y3⟩:=y;simp only [List.cons.injEq,V.agg.injEq,V.fs.injEq,V.str.injEq,and_true]at h;obtain⟨⟨⟨h1,_⟩,h2,_⟩,h3⟩:=h;rw [zbp h1,zbp h2,h3]) (A,B,k) ⟨hA,hB,sA,sB,lk⟩
end Go.Proofs
