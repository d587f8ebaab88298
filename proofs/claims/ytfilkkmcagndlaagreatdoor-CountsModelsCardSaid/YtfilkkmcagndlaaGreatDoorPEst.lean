/- Estimating, as the program does (counts.Estimate). -/
import Derived.Test.YtfilkkmcagndlaaGreatDoorPRow
import Derived.Test.YtfilkkmcagndlaaGreatDoorPNames
import Derived.Test.YtfilkkmcagndlaaGreatDoorQRat2
set_option linter.all false
namespace Go.Proofs
open Go.Ab Go.Cnt Go.Pl
noncomputable def Δe:FuncId→List V→Hp→Option AR:=zct 34 (conD NamR) (zct 35 (conD TabR) (zct 36 (conD CloR) (zct 37 (conD RowR) noΔ)))
theorem zcD:zbo Tryz.prog Δe:=zaw (zaQ namR_ok) (zaw (zaQ tabR_ok) (zaw (zaQ zpG) (zaw (zaQ rowR_ok) zg)))
def tagI(A B:List Ent)(i:Nat):List Str:=zdn A++(B.take i).map fun e=>e.1.1
def zf7(B:List Ent)(i:Nat):List Str:=(B.take i).map fun e=>e.1.2
theorem zt7(A:List Ent)(i:Nat)(h:i<A.length):zdn (A.take (i+1))=zdn (A.take i)++[(nthE A i).1.1,(nthE A i).1.2]:=by rw [zcg A i h,zyl];rfl
theorem zvB(A B:List Ent)(i:Nat)(h:i<B.length):tagI A B (i+1)=tagI A B i++[(nthE B i).1.1]:=by unfold tagI;rw [zcg B i h,List.map_append,List.append_assoc];rfl
theorem zr9(B:List Ent)(i:Nat)(h:i<B.length):zf7 B (i+1)=zf7 B i++[(nthE B i).1.2]:=by unfold zf7;rw [zcg B i h,List.map_append];rfl
theorem strs_two(L:List Str)(a b:Str):strs L++[.str a,.str b]=strs (L++[a,b]):=by simp [strs]
noncomputable def cK(o:Option Blk)(n b:Nat)(bs:List (Nat×Blk))(nx:Nat):Option AR:=match o with|some _=>Δe 36 [.sl b 0 n 1 none] ⟨bs,nx⟩|none=>Δe 36 [.sl b 0 n 1 none] ⟨bs,nx⟩
theorem zbQ(n b:Nat)(bs:List (Nat×Blk))(nx:Nat):Δe 36 [.sl b 0 n 1 none] ⟨bs,nx⟩=cK (zaM bs b) n b bs nx:=by unfold cK;split<;>rfl
theorem zb1(X:List Str)(n b:Nat)(bs:List (Nat×Blk))(nx:Nat)(hb:zaM bs b=some (.cells (strs X)))(hX:X.length≤1000000)(hm:n≤X.length)(hk:((keysB bs).all fun b=>decide (b<nx))=true):
 cK (some (.cells (strs X))) n b bs nx=some ⟨True,.sl nx 0 n 1 none,⟨(nx,.cells (strs (X.take n)))::bs,nx+1⟩,[b],[]⟩:=zyN b n X bs nx hb hm hX hk
theorem zcs(bs:List (Nat×Blk))(nx:Nat)(hk:((keysB bs).all fun b=>decide (b<nx))=true):Δe 36 [.nilS] ⟨bs,nx⟩=some ⟨True,.nilS,⟨bs,nx⟩,[],[]⟩:=zrz bs nx hk
noncomputable def rK(o0 o1 o2:Option Blk)(a:Str)(n:Nat)(k:Str)(b0 b1 b2:Nat)(bs:List (Nat×Blk))(nx:Nat):Option AR:=match o0,o1,o2 with|_,_,_=>Δe 37 [.agg [.map b0,.map b1],.str a,.sl b2 0 n 1 none,.str k] ⟨bs,nx⟩
theorem zb4(a:Str)(n:Nat)(k:Str)(b0 b1 b2:Nat)(bs:List (Nat×Blk))(nx:Nat):Δe 37 [.agg [.map b0,.map b1],.str a,.sl b2 0 n 1 none,.str k] ⟨bs,nx⟩=rK (zaM bs b0) (zaM bs b1) (zaM bs b2) a n k b0 b1 b2 bs nx:=rfl
def nod3(a b c:Nat):Bool:=decide (a≠b∧a≠c∧b≠c)
theorem nod3_ok {a b c:Nat}(h:nod3 a b c=true):[a,b,c].Nodup:=by obtain⟨h1,h2,h3⟩:=of_decide_eq_true h;simp [h1,h2,h3]
theorem zgg(N:List Ent)(S:Ens)(L:List Str)(a:Str)(n:Nat)(k:Str)(c0 c1:Nat)(b0 b1 b2:Nat)(bs:List (Nat×Blk))(nx:Nat)(ok:RowOK N S L a k)(hn:n=L.length)(h0:zaM bs b0=some (.mp (mpF 0 N) N.length))(h1:zaM bs b1=some (.mp (mpS 0 S) S.length))(h2:zaM bs b2=some (.cells (strs L)))
 (hnd:nod3 b0 b1 b2=true) (hk:((keysB bs).all fun b=>decide (b<nx))=true):
 rK (some (.mp (mpF 0 N) c0)) (some (.mp (mpS 0 S) c1)) (some (.cells (strs L))) a n k b0 b1 b2 bs nx=some ⟨True,ze4 k L.length (valS S a).toNat (cntL N a L),⟨bs,nx⟩,[b0,b1,b2],[]⟩:=rowR_eq b0 b1 b2 N S L a k n bs nx h0 h1 h2 hn ok (nod3_ok hnd) hk
theorem zaI(b:Nat):zdF (.map b)=[]:=rfl
def zdL(tv wv:V)(b1:List (Nat×Blk))(N1 N2:List Ent)(S1 S2:Ens)(T:List Str)(N E:List (List Str)):Hp:=
 ⟨blkM 17 E (blkM 16 N ((15,.cells (strs (T++[[]])))::(12,.cells [.map 8,.map 9])::(11,.cells [.map 5,.map 6])::(9,.mp (mpS 0 S2) S2.length)::(8,.mp (mpF 0 N2) N2.length)::(6,.mp (mpS 0 S1) S1.length)::(5,.mp (mpF 0 N1) N1.length)::(0,.cells [tv,wv,slM 16 N,slM 17 E])::b1)),18⟩
def rV(p:Int×List Str):V:=.tup [.fs (strs p.2) p.2.length,.int .i64 p.1]
set_option maxHeartbeats 16000000 in
set_option maxRecDepth 100000 in
theorem pest_ok(A B:List Ent)(k:Str)(hA:A.length≤100000)(hB:B.length≤100000)(sA:zft A)(sB:zft B)(lk:k.length≤1000000)(hneg:(ratP k).isSome=true→(zbK k [48]<0↔k.head? =some 45))
 (law:zcq A B=true→(ratP k).isSome=true→k.head? ≠some 45→∀ i,i≤(nmS (tagL A B)).length→
  RowOK (tabN A A.length) (tabS A A.length) (nmS (tagL A B)++[[]]) ((nmS (tagL A B)++[[]]).getD i []) k∧RowOK (tabN B B.length) (tabS B B.length) (nmS (zai B)++[[]]) ((nmS (tagL A B)++[[]]).getD i []) k∧
  ze4 k (nmS (tagL A B)++[[]]).length (valS (tabS A A.length) ((nmS (tagL A B)++[[]]).getD i [])).toNat (cntL (tabN A A.length) ((nmS (tagL A B)++[[]]).getD i []) (nmS (tagL A B)++[[]]))=rV (rowN A (nmS (tagL A B)) k i)∧
  ze4 k (nmS (zai B)++[[]]).length (valS (tabS B B.length) ((nmS (tagL A B)++[[]]).getD i [])).toNat (cntL (tabN B B.length) ((nmS (tagL A B)++[[]]).getD i []) (nmS (zai B)++[[]]))=rV (rowE B (nmS (tagL A B)) (nmS (zai B)) k i)∧
  ((rowN A (nmS (tagL A B)) k i).1≠0→(rowN A (nmS (tagL A B)) k i).1=2)∧((rowE B (nmS (tagL A B)) (nmS (zai B)) k i).1≠0→(rowE B (nmS (tagL A B)) (nmS (zai B)) k i).1=2)):
 PCall Tryz.prog 13 [.agg [.fs (cnts A) A.length,.fs (cnts B) B.length],.str k] (.ret (estV (estR A B k))):=by
 have hΓ:=zf zu0 (zf zex (zf zj1 zh))
 have v3:zix [.str k]=some (.ret (.bool (ratP k).isSome)):=znM k (by omega)
 have v4:zpR [.str k,.str [48]]=some (.ret (.int .i64 (zbK k [48]))):=zuI k [48] (by omega) (by decide)
 refine PCall.walk (rs:=[.cell 4 28,.tmp 5]) [0,1,2,4,5,6,7,9,11,12,13,14,15,16,17,18,31,34,35,36,37,49,50,51,52,81,94,95,96,97,110,123,137] [24] mixed (hΓ) (zcD) call13 Tryz.func13 rfl Tryz.ntmps13 rfl (by kernel_rfl) (by simp) (by simp [push_cast]) ?_
 cases hv:zcq A B with
 |false=>
  have hr:estR A B k=(noM,1):=by unfold estR;rw [hv];rfl
  rw [hr]
  simp (disch:=first|assumption|(push_cast<;>omega)|omega) only [go_sem,hv,estV,mdlV,noM,zab]
 |true=>
 cases hp:(ratP k).isSome with
 |false=>
  have hr:estR A B k=(noM,1):=by unfold estR;rw [hv,hp];rfl
  rw [hr]
  simp (disch:=first|assumption|(push_cast<;>omega)|omega) only [go_sem,hv,v3,hp,estV,mdlV,noM,zab]
 |true=>
 have hneg:=hneg hp
 simp (disch:=first|assumption|(push_cast<;>omega)|omega) only [go_sem,hv,v3,v4,hp]
 rw [decide_eq_decide.2 hneg]
 refine AXc.introP (fun hc=>?_) (fun hc=>?_)
 ·have hr:estR A B k=(noM,1):=by unfold estR;rw [hv,hp,hc];rfl
  rw [hr]
  simp (disch:=first|assumption|(push_cast<;>omega)|omega) only [go_sem,estV,mdlV,noM,zab]
 have hr:estR A B k=if 40<(nmS (tagL A B)).length∨500<(nmS (zai B)).length then(noM,2)else estG (nmS (tagL A B)) (nmS (zai B)) (rowN A (nmS (tagL A B)) k) (rowE B (nmS (tagL A B)) (nmS (zai B)) k):=by unfold estR;rw [hv,hp,if_pos];simp [hc]
 rw [hr]
 clear hr
 obtain⟨smA,smB⟩:=zee hv
 have fl0:zdn []=[]:=rfl
 have pAB:∀ x∈[V.fs (cnts A) A.length,V.fs (cnts B) B.length],Ab.Pure x:=by
  intro x hx;simp only [List.mem_cons,List.not_mem_nil,or_false]at hx;rcases hx with rfl|rfl
  ·exact .fs (zdi A)
  ·exact .fs (zdi B)
 simp (disch:=first|assumption|(push_cast<;>omega)|omega) only [go_sem]
 refine AXs.loop mixed (hΓ) (zcD) (fun i:Nat=>[(1,.str k),(2,.fp [.fs (cnts A) A.length,.fs (cnts B) B.length]),(4,.ptr 0 0),(6,slS 1 (zdn (A.take i))),(7,.nilS),(34,.fs (cnts A) A.length),(35,.int .i64 A.length),(36,.int .i64 i)])
  (fun i=>⟨blkS 1 (zdn (A.take i)) [(0,.cells [.nilS,.nilS,.nilS,.nilS])],3⟩) (fun i=>i≤A.length) (fun i=>A.length - i) 0 (by kernel_rfl) (Nat.zero_le _) (Sub.of0 [] rfl rfl ?_ ?_) ?_
 ·simp only [go_sem,List.take_zero,fl0,zdD]
  exact pAB
 ·simp only [go_sem,List.take_zero,fl0,zcx]
 intro i h1
 simp (disch:=first|assumption|(push_cast<;>omega)|omega) only [go_sem]
 refine AXc.introP (fun h3=>?_) (fun h3=>?_)
 ·have hi:i<A.length:=by omega
  have at1:=zew A i hi
  have hst:=zt7 A i hi
  have fln:=zfP (A.take i)
  rw [List.length_take,Nat.min_eq_left h1]at fln
  have nn:zdn (A.take (i+1))≠[]:=by rw [hst];simp
  have nl:(zdn (A.take (i+1))).length=2*i+2:=by rw [hst,List.length_append,fln];rfl
  by_cases n0:zdn (A.take i)=[]
  ·rw [n0]at hst fln
   simp (disch:=first|assumption|(push_cast<;>omega)|omega) only [go_sem,at1,n0,zdD,zcx]
   (repeat refine sdC ?_)
   refine zk (i+1) (by omega) (by omega) ?_
   rw [za1 1 nn,zay 1 nn,nl,hst]
   refine Sub.of0 [(1,5)] rfl rfl ?_ ?_
   ·simp only [go_sem]
    exact⟨pAB,by simpa using fln.symm,by simp⟩
   ·simp only [go_sem]
    rfl
  ·simp (disch:=first|assumption|(push_cast<;>omega)|omega) only [go_sem,at1,za1 1 n0,zay 1 n0,fln]
   (repeat refine sdC ?_)
   refine zk (i+1) (by omega) (by omega) ?_
   rw [za1 1 nn,zay 1 nn,nl,hst]
   refine Sub.of0 [(1,5)] rfl rfl ?_ ?_
   ·simp only [go_sem]
    exact⟨pAB,by simp⟩
   ·simp only [go_sem]
    rw [List.take_of_length_le (by omega),strs_two]
 obtain rfl:i=A.length:=by omega
 rw [List.take_length]
 simp only [go_sem]
 refine AXa.go mixed (hΓ) (zcD) (by kernel_rfl) ?_
 simp (disch:=first|assumption|(push_cast<;>omega)|omega) only [go_sem]
 refine AXs.loop mixed (hΓ) (zcD) (fun i:Nat=>[(1,.str k),(2,.fp [.fs (cnts A) A.length,.fs (cnts B) B.length]),(4,.ptr 0 0),(6,slS 1 (tagI A B i)),(7,slS 2 (zf7 B i)),(49,.fs (cnts B) B.length),(50,.int .i64 B.length),(51,.int .i64 i)])
  (fun i=>⟨blkS 2 (zf7 B i) (blkS 1 (tagI A B i) [(0,.cells [.nilS,.nilS,.nilS,.nilS])]),3⟩) (fun i=>i≤B.length) (fun i=>B.length - i) 0 (by kernel_rfl) (Nat.zero_le _) ?_ ?_
 ·have t0:tagI A B 0=zdn A:=by unfold tagI;simp
  have w0:zf7 B 0=[]:=rfl
  rw [t0,w0]
  by_cases n0:zdn A=[]
  ·simp only [n0,zdD,zcx]
   refine Sub.of0 [] rfl rfl ?_ ?_
   ·simp only [go_sem]
    exact pAB
   ·simp only [go_sem]
  ·simp only [za1 1 n0,zay 1 n0,zdD,zcx]
   refine Sub.of0 [] rfl rfl ?_ ?_
   ·simp only [go_sem]
    exact pAB
   ·simp only [go_sem]
 intro i h1
 simp (disch:=first|assumption|(push_cast<;>omega)|omega) only [go_sem]
 refine AXc.introP (fun h3=>?_) (fun h3=>?_)
 ·have hi:i<B.length:=by omega
  have at1:=zew B i hi
  have hst:=zvB A B i hi
  have hsw:=zr9 B i hi
  have fln:(tagI A B i).length=2*A.length+i:=by unfold tagI;rw [List.length_append,zfP,List.length_map,List.length_take,Nat.min_eq_left h1]
  have wln:(zf7 B i).length=i:=by unfold zf7;rw [List.length_map,List.length_take,Nat.min_eq_left h1]
  have nn:tagI A B (i+1)≠[]:=by rw [hst];simp
  have nw:zf7 B (i+1)≠[]:=by rw [hsw];simp
  have hwr:IntKind.wrap .i64 ((i:Int)+1)=(i:Int)+1:=wrap_i64 _ (by omega) (by omega)
  have nl:(tagI A B (i+1)).length=2*A.length+i+1:=by rw [hst,List.length_append,fln];rfl
  have wl:(zf7 B (i+1)).length=i+1:=by rw [hsw,List.length_append,wln];rfl
  by_cases n0:tagI A B i=[]<;>by_cases w0:zf7 B i=[]
  ·rw [n0,List.length_nil]at fln
   rw [w0,List.length_nil]at wln
   rw [n0]at hst
   rw [w0]at hsw
   simp (disch:=first|assumption|(push_cast<;>omega)|omega) only [go_sem,at1,n0,w0,zdD,zcx]
   (repeat refine sdC ?_)
   try simp only [go_sem,hwr]
   refine zk (i+1) (by omega) (by omega) ?_
   rw [za1 1 nn,zay 1 nn,za1 2 nw,zay 2 nw,nl,wl,hst,hsw]
   refine Sub.of0 [(1,5),(2,7)] rfl rfl ?_ ?_
   ·simp only [go_sem]
    exact⟨pAB,by omega,by omega,by simp⟩
   ·simp only [go_sem]
    exact⟨rfl,rfl⟩
  ·rw [n0,List.length_nil]at fln
   skip
   rw [n0]at hst
   skip
   simp (disch:=first|assumption|(push_cast<;>omega)|omega) only [go_sem,at1,n0,zdD,zcx,za1 2 w0,zay 2 w0,wln]
   (repeat refine sdC ?_)
   try simp only [go_sem,hwr]
   refine zk (i+1) (by omega) (by omega) ?_
   rw [za1 1 nn,zay 1 nn,za1 2 nw,zay 2 nw,nl,wl,hst,hsw]
   refine Sub.of0 [(1,5),(2,7)] rfl rfl ?_ ?_
   ·simp only [go_sem]
    exact⟨pAB,by omega,by simp⟩
   ·simp only [go_sem]
    exact⟨by rw [List.take_of_length_le (by omega)],rfl⟩
  ·skip
   rw [w0,List.length_nil]at wln
   skip
   rw [w0]at hsw
   simp (disch:=first|assumption|(push_cast<;>omega)|omega) only [go_sem,at1,w0,zdD,zcx,za1 1 n0,zay 1 n0,fln]
   (repeat refine sdC ?_)
   try simp only [go_sem,hwr]
   refine zk (i+1) (by omega) (by omega) ?_
   rw [za1 1 nn,zay 1 nn,za1 2 nw,zay 2 nw,nl,wl,hst,hsw]
   refine Sub.of0 [(1,5),(2,7)] rfl rfl ?_ ?_
   ·simp only [go_sem]
    exact⟨pAB,by omega,by simp⟩
   ·simp only [go_sem]
    exact⟨rfl,by rw [List.take_of_length_le (by omega)]⟩
  ·skip
   skip
   skip
   skip
   simp (disch:=first|assumption|(push_cast<;>omega)|omega) only [go_sem,at1,za1 1 n0,zay 1 n0,za1 2 w0,zay 2 w0,fln,wln]
   (repeat refine sdC ?_)
   try simp only [go_sem,hwr]
   refine zk (i+1) (by omega) (by omega) ?_
   rw [za1 1 nn,zay 1 nn,za1 2 nw,zay 2 nw,nl,wl,hst,hsw]
   refine Sub.of0 [(1,5),(2,7)] rfl rfl ?_ ?_
   ·simp only [go_sem]
    exact⟨pAB,by simp⟩
   ·simp only [go_sem]
    exact⟨by rw [List.take_of_length_le (by omega)],by rw [List.take_of_length_le (by omega)]⟩
 obtain rfl:i=B.length:=by omega
 have tA:tagI A B B.length=tagL A B:=by unfold tagI tagL;rw [List.take_length]
 have wA:zf7 B B.length=zai B:=by unfold zf7 zai;rw [List.take_length]
 have tl:(tagL A B).length=2*A.length+B.length:=by unfold tagL;rw [List.length_append,zfP,List.length_map]
 have wl:(zai B).length=B.length:=by unfold zai;rw [List.length_map]
 rw [tA,wA]
 have qT:=zlf (tagL A B)
 have qW:=zlf (zai B)
 simp only [go_sem]
 by_cases w0:zai B=[]
 rotate_left
 ·have t0:tagL A B≠[]:=by
   intro e
   have h1:=congrArg List.length e
   rw [tl,List.length_nil]at h1
   exact w0 (List.eq_nil_of_length_eq_zero (by omega))
  simp only [za1 1 t0,zay 1 t0,za1 2 w0,zay 2 w0]
  have n1:=zo5 1 (tagL A B).length (tagL A B) [(2,.cells (strs (zai B))),(1,.cells (strs (tagL A B))),(0,.cells [.nilS,.nilS,.nilS,.nilS])] 3 rfl rfl (by omega) rfl
  have hTz:(nmS (tagL A B)++zerS ((tagL A B).length - (nmS (tagL A B)).length)).length≤1000000:=by rw [List.length_append];simp only [zerS,List.length_replicate];omega
  generalize zerS ((tagL A B).length - (nmS (tagL A B)).length)=zt at n1 hTz
  have n1':Δe 34 [.sl 1 0 (tagL A B).length 1 none] ⟨[(2,.cells (strs (zai B))),(1,.cells (strs (tagL A B))),(0,.cells [.nilS,.nilS,.nilS,.nilS])],3⟩=_:=n1
  have n2:=zo5 2 (zai B).length (zai B) [(3,.cells (strs (nmS (tagL A B)++zt))),(2,.cells (strs (zai B))),(1,.cells (strs (tagL A B))),(0,.cells [.nilS,.nilS,.nilS,.nilS])] 4 rfl rfl (by omega) rfl
  have hWz:(nmS (zai B)++zerS ((zai B).length - (nmS (zai B)).length)).length≤1000000:=by rw [List.length_append];simp only [zerS,List.length_replicate];omega
  generalize zerS ((zai B).length - (nmS (zai B)).length)=zw at n2 hWz
  have n2':Δe 34 [.sl 2 0 (zai B).length 1 none] ⟨[(3,.cells (strs (nmS (tagL A B)++zt))),(2,.cells (strs (zai B))),(1,.cells (strs (tagL A B))),(0,.cells [.nilS,.nilS,.nilS,.nilS])],4⟩=_:=n2
  have law:=law hv hp hc
  generalize rowN A (nmS (tagL A B)) k=rN at*
  generalize rowE B (nmS (tagL A B)) (nmS (zai B)) k=rE at*
  generalize nmS (tagL A B)=T at*
  generalize nmS (zai B)=W at*
  refine AXa.go mixed (hΓ) (zcD) (by kernel_rfl) ?_
  simp (disch:=first|assumption|(push_cast<;>omega)|omega) only [go_sem,n1',n2']
  by_cases hbig:40<T.length∨500<W.length
  ·have hb:(decide (40<(T.length:Int))||decide (500<(W.length:Int)))=true:=by
    simp only [Bool.or_eq_true,decide_eq_true_eq];omega
   rw [hb,if_pos hbig]
   simp (disch:=first|assumption|(push_cast<;>omega)|omega) only [go_sem,estV,mdlV,noM,zab]
  have hb:(decide (40<(T.length:Int))||decide (500<(W.length:Int)))=false:=by simp only [Bool.or_eq_false_iff,decide_eq_false_iff_not];omega
  rw [hb,if_neg hbig]
  have d1':Δe 35 [.fs (cnts A) A.length] ⟨[(4,.cells (strs (W++zw))),(3,.cells (strs (T++zt))),(2,.cells (strs (zai B))),(1,.cells (strs (tagL A B))),(0,.cells [.sl 3 0 T.length 1 none,.sl 4 0 W.length 1 none,.nilS,.nilS])],5⟩=_:=zgb A A.length [(4,.cells (strs (W++zw))),(3,.cells (strs (T++zt))),(2,.cells (strs (zai B))),(1,.cells (strs (tagL A B))),(0,.cells [.sl 3 0 T.length 1 none,.sl 4 0 W.length 1 none,.nilS,.nilS])] 5 rfl hA smA rfl
  have d2':Δe 35 [.fs (cnts B) B.length] ⟨[(6,.mp (mpS 0 (tabS A A.length)) (tabS A A.length).length),(5,.mp (mpF 0 (tabN A A.length)) (tabN A A.length).length),(4,.cells (strs (W++zw))),(3,.cells (strs (T++zt))),(2,.cells (strs (zai B))),(1,.cells (strs (tagL A B))),(0,.cells [.sl 3 0 T.length 1 none,.sl 4 0 W.length 1 none,.nilS,.nilS])],8⟩=_:=zgb B B.length [(6,.mp (mpS 0 (tabS A A.length)) (tabS A A.length).length),(5,.mp (mpF 0 (tabN A A.length)) (tabN A A.length).length),(4,.cells (strs (W++zw))),(3,.cells (strs (T++zt))),(2,.cells (strs (zai B))),(1,.cells (strs (tagL A B))),(0,.cells [.sl 3 0 T.length 1 none,.sl 4 0 W.length 1 none,.nilS,.nilS])] 8 rfl hB smB rfl
  generalize tabN A A.length=N1 at*
  generalize tabS A A.length=S1 at*
  generalize tabN B B.length=N2 at*
  generalize tabS B B.length=S2 at*
  simp (disch:=first|assumption|(push_cast<;>omega)|omega) only [go_sem,d1',d2']
  refine AXk.intro (by kernel_rfl) ?_
  simp (config:={ maxSteps:=2000000 }) (disch:=first|assumption|(push_cast<;>omega)|(with_unfolding_all exact id rfl)|omega) only [go_sem,zbQ,zb1,List.take_left,List.take_length]
  (repeat refine sdC ?_)
  refine AXs.loop mixed (hΓ) (zcD) (fun i:Nat=>[(1,.str k),(4,.ptr 0 0),(12,.ptr 11 0),(13,.ptr 12 0),(14,.sl 15 0 (T.length+1) 1 none),(94,.sl 15 0 (T.length+1) 1 none),(95,.int .i64 (T.length+1)),(96,.int .i64 i)])
   (fun i=>zdL (.sl 3 0 T.length 1 none) (.sl 4 0 W.length 1 none) [(4,.cells (strs (W++zw))),(3,.cells (strs (T++zt)))] N1 N2 S1 S2 T (upR rN i) (upR rE i)) (fun i=>i≤T.length∧okR rN rE i) (fun i=>T.length - i) 0 (by kernel_rfl) ⟨Nat.zero_le _,fun j hj=>absurd hj (Nat.not_lt_zero j),fun j hj=>absurd hj (Nat.not_lt_zero j)⟩ (Sub.of0 [] rfl rfl ?_ ?_) ?_
  ·simp only [go_sem]
   simp
  ·simp only [go_sem,zdL,zkn,zef,zc3]
   exact⟨zaf _ _ _ _ rfl rfl,zaH _ _ _ _ rfl rfl,zaf _ _ _ _ rfl rfl,zaH _ _ _ _ rfl rfl⟩
  rintro i ⟨h1,hok⟩
  have ln:=zcF rN i
  have le:=zcF rE i
  obtain⟨ok1,ok2,rw1,rw2,er1,er2⟩:=law i h1
  have tlen:(T++[[]]).length=T.length+1:=by simp
  have wlen:(W++[[]]).length=W.length+1:=by simp
  rw [tlen]at rw1
  rw [wlen]at rw2
  unfold rV at rw1 rw2
  by_cases hi:i<T.length
  ·have un:=zdz rN i
   have ue:=zdz rE i
   have e2:decide ((i:Int)<(T.length:Int)+1)=true:=decide_eq_true (by omega)
   have e4:decide ((i:Int)=(T.length:Int))=false:=decide_eq_false (by omega)
   by_cases i0:i=0
   ·have un0:upR rN i=[]:=by rw [i0];rfl
    have ue0:upR rE i=[]:=by rw [i0];rfl
    rw [un0,List.nil_append]at un
    rw [ue0,List.nil_append]at ue
    have un':upR rN (i+1)≠[]:=by rw [un];exact List.cons_ne_nil _ _
    have ue':upR rE (i+1)≠[]:=by rw [ue];exact List.cons_ne_nil _ _
    have ln':(upR rN (i+1)).length=1:=by rw [un];rfl
    have le':(upR rE (i+1)).length=1:=by rw [ue];rfl
    simp (config:={ maxSteps:=2000000 }) (disch:=first|assumption|(push_cast<;>omega)|(with_unfolding_all exact id rfl)|omega) only [go_sem,zdL,un0,ue0,zef,zc3,e2,tlen,wlen,zb4,zgg,rw1,rw2,zaI,List.cons_append,List.nil_append,zbQ,zb1,zad,zA i ln,zA i le,List.take_left,List.take_length]
    (repeat refine sdC ?_)
    refine AXc.introN (fun h5=>?_) (fun h5=>?_)
    ·rw [zbk fun h=>h5 (h.1.1 i hi), ←er1 h5]
     simp (disch:=first|assumption|(push_cast<;>omega)|omega) only [go_sem,estV,mdlV,noM,zab]
    simp (config:={ maxSteps:=2000000 }) (disch:=first|assumption|(push_cast<;>omega)|(with_unfolding_all exact id rfl)|omega) only [go_sem,e4,e2,tlen,wlen,zb4,zgg,rw1,rw2,zaI,List.cons_append,List.nil_append,zbQ,zb1,zad,zA i ln,zA i le,List.take_left,List.take_length]
    (repeat refine sdC ?_)
    simp only [go_sem]
    refine AXc.introN (fun h6=>?_) (fun h6=>?_)
    ·rw [zbk fun h=>h6 (h.1.2 i hi), ←er2 h6]
     simp (disch:=first|assumption|(push_cast<;>omega)|omega) only [go_sem,estV,mdlV,noM,zab]
    simp (disch:=first|assumption|(push_cast<;>omega)|omega) only [go_sem,zad,zA i le]
    (repeat refine sdC ?_)
    refine zk (i+1) ⟨by omega,fun j hj=>?_,fun j hj=>?_⟩ (by omega) ?_
    ·rcases Nat.lt_or_ge j i with hji|hji
     ·exact hok.1 j hji
     ·obtain rfl:j=i:=by omega
      simpa using h5
    ·rcases Nat.lt_or_ge j i with hji|hji
     ·exact hok.2 j hji
     ·obtain rfl:j=i:=by omega
      simpa using h6
    ·simp only [zdL,zcr 16 un',zcr 17 ue',zbv 16 un',zbv 17 ue',ln',le']
     refine Sub.of0 [(16,19),(17,24)] rfl rfl ?_ ?_
     ·simp (disch:=first|assumption|(push_cast<;>omega)|omega) only [go_sem]
      simp
     ·rw [un,ue]
      simp only [go_sem]
      exact⟨zu (zaa _),zu (zaa _),zaf _ _ _ _ rfl rfl,zaH _ _ _ _ rfl rfl,zaf _ _ _ _ rfl rfl,zaH _ _ _ _ rfl rfl⟩
   ·have nn:=zd6 rN (i:=i) (by omega)
    have ne:=zd6 rE (i:=i) (by omega)
    have un':=zd6 rN (i:=i+1) (by omega)
    have ue':=zd6 rE (i:=i+1) (by omega)
    have ln':(upR rN (i+1)).length=i+1:=zcF _ _
    have le':(upR rE (i+1)).length=i+1:=zcF _ _
    simp (config:={ maxSteps:=2000000 }) (disch:=first|assumption|(push_cast<;>omega)|(with_unfolding_all exact id rfl)|omega) only [go_sem,zdL,zcr 16 nn,zcr 17 ne,zbv 16 nn,zbv 17 ne,ln,le,e2,tlen,wlen,zb4,zgg,rw1,rw2,zaI,List.cons_append,List.nil_append,zbQ,zb1,zad,zA i ln,zA i le,List.take_left,List.take_length]
    (repeat refine sdC ?_)
    refine AXc.introN (fun h5=>?_) (fun h5=>?_)
    ·rw [zbk fun h=>h5 (h.1.1 i hi), ←er1 h5]
     simp (disch:=first|assumption|(push_cast<;>omega)|omega) only [go_sem,estV,mdlV,noM,zab]
    simp (config:={ maxSteps:=2000000 }) (disch:=first|assumption|(push_cast<;>omega)|(with_unfolding_all exact id rfl)|omega) only [go_sem,e4,e2,tlen,wlen,zb4,zgg,rw1,rw2,zaI,List.cons_append,List.nil_append,zbQ,zb1,zad,zA i ln,zA i le,List.take_left,List.take_length]
    (repeat refine sdC ?_)
    simp only [go_sem]
    refine AXc.introN (fun h6=>?_) (fun h6=>?_)
    ·rw [zbk fun h=>h6 (h.1.2 i hi), ←er2 h6]
     simp (disch:=first|assumption|(push_cast<;>omega)|omega) only [go_sem,estV,mdlV,noM,zab]
    simp (disch:=first|assumption|(push_cast<;>omega)|omega) only [go_sem,zad,zA i le]
    (repeat refine sdC ?_)
    refine zk (i+1) ⟨by omega,fun j hj=>?_,fun j hj=>?_⟩ (by omega) ?_
    ·rcases Nat.lt_or_ge j i with hji|hji
     ·exact hok.1 j hji
     ·obtain rfl:j=i:=by omega
      simpa using h5
    ·rcases Nat.lt_or_ge j i with hji|hji
     ·exact hok.2 j hji
     ·obtain rfl:j=i:=by omega
      simpa using h6
    ·simp only [zdL,zcr 16 un',zcr 17 ue',zbv 16 un',zbv 17 ue',ln',le']
     refine Sub.of0 [(16,19),(17,24)] rfl rfl ?_ ?_
     ·simp (disch:=first|assumption|(push_cast<;>omega)|omega) only [go_sem]
      simp
     ·rw [un,ue]
      simp only [go_sem]
      rw [←zby, ←zby]
      exact⟨zu fun x hx=>by rw [zby]at hx;exact zaa _ x hx,zu fun x hx=>by rw [zby]at hx;exact zaa _ x hx,zaf _ _ _ _ rfl rfl,zaH _ _ _ _ rfl rfl,zaf _ _ _ _ rfl rfl,zaH _ _ _ _ rfl rfl⟩
  obtain rfl:i=T.length:=by omega
  have un:=zdz rN T.length
  have e2:decide ((T.length:Int)<(T.length:Int)+1)=true:=decide_eq_true (by omega)
  have e4:decide ((T.length:Int)=(T.length:Int))=true:=decide_eq_true rfl
  by_cases i0:T.length=0
  ·have un0:upR rN T.length=[]:=by rw [i0];rfl
   have ue0:upR rE T.length=[]:=by rw [i0];rfl
   rw [un0,List.nil_append]at un
   simp (config:={ maxSteps:=2000000 }) (disch:=first|assumption|(push_cast<;>omega)|(with_unfolding_all exact id rfl)|omega) only [go_sem,zdL,un0,ue0,zef,zc3,e2,tlen,wlen,zb4,zgg,rw1,rw2,zaI,List.cons_append,List.nil_append,zbQ,zb1,zad,zA T.length ln,zA T.length le,List.take_left,List.take_length]
   (repeat refine sdC ?_)
   refine AXc.introN (fun h5=>?_) (fun h5=>?_)
   ·rw [zbk fun h=>h5 h.2, ←er1 h5]
    simp (disch:=first|assumption|(push_cast<;>omega)|omega) only [go_sem,estV,mdlV,noM,zab]
   have h5':(rN T.length).1=0:=by simpa using h5
   rw [zfR hok h5',un,ue0]
   simp (disch:=first|assumption|(push_cast<;>omega)|omega) only [go_sem,e4,zad,zA T.length ln]
   (repeat refine sdC ?_)
   refine AXa.go mixed (hΓ) (zcD) (by kernel_rfl) ?_
   simp (disch:=first|assumption|(push_cast<;>omega)|omega) only [go_sem,estV,mdlV,zab]
   exact⟨Frz.slp rfl rfl (by simp [strs]) (by rw [List.drop_zero,Nat.mul_one,zbW,List.take_left]) (zT _),Frz.slp rfl rfl (by simp [strs]) (by rw [List.drop_zero,Nat.mul_one,zbW,List.take_left]) (zT _),Frz.slp rfl rfl (by simp) rfl (zaa _)⟩
  ·have nn:=zd6 rN (i:=T.length) (by omega)
   have ne:=zd6 rE (i:=T.length) (by omega)
   simp (config:={ maxSteps:=2000000 }) (disch:=first|assumption|(push_cast<;>omega)|(with_unfolding_all exact id rfl)|omega) only [go_sem,zdL,zcr 16 nn,zcr 17 ne,zbv 16 nn,zbv 17 ne,ln,le,e2,tlen,wlen,zb4,zgg,rw1,rw2,zaI,List.cons_append,List.nil_append,zbQ,zb1,zad,zA T.length ln,zA T.length le,List.take_left,List.take_length]
   (repeat refine sdC ?_)
   refine AXc.introN (fun h5=>?_) (fun h5=>?_)
   ·rw [zbk fun h=>h5 h.2, ←er1 h5]
    simp (disch:=first|assumption|(push_cast<;>omega)|omega) only [go_sem,estV,mdlV,noM,zab]
   have h5':(rN T.length).1=0:=by simpa using h5
   rw [zfR hok h5',un]
   simp (disch:=first|assumption|(push_cast<;>omega)|omega) only [go_sem,e4,zad,zA T.length ln]
   (repeat refine sdC ?_)
   refine AXa.go mixed (hΓ) (zcD) (by kernel_rfl) ?_
   simp (disch:=first|assumption|(push_cast<;>omega)|omega) only [go_sem,estV,mdlV,zab]
   exact⟨Frz.slp rfl rfl (by simp [strs]) (by rw [List.drop_zero,Nat.mul_one,zbW,List.take_left]) (zT _),Frz.slp rfl rfl (by simp [strs]) (by rw [List.drop_zero,Nat.mul_one,zbW,List.take_left]) (zT _),Frz.slp rfl (by simp [ln]) (by simp [zbB,ln]) (by rw [List.drop_zero,Nat.mul_one,List.take_of_length_le (by simp [zbB,ln]),zby]) (zaa _),Frz.slp rfl le (by simp [zbB,le]) (by rw [List.drop_zero,Nat.mul_one,List.take_of_length_le (by simp [zbB,le])]) (zaa _)⟩
 by_cases t0:tagL A B=[]
 rotate_left
 ·have x3:slS 2 (zai B)=.nilS:=by rw [w0];rfl
  have x4:∀ bs,blkS 2 (zai B) bs=bs:=fun _=>by rw [w0];rfl
  simp only [za1 1 t0,zay 1 t0,x3,x4]
  have n1:=zo5 1 (tagL A B).length (tagL A B) [(1,.cells (strs (tagL A B))),(0,.cells [.nilS,.nilS,.nilS,.nilS])] 3 rfl rfl (by omega) rfl
  have hTz:(nmS (tagL A B)++zerS ((tagL A B).length - (nmS (tagL A B)).length)).length≤1000000:=by rw [List.length_append];simp only [zerS,List.length_replicate];omega
  generalize zerS ((tagL A B).length - (nmS (tagL A B)).length)=zt at n1 hTz
  have n1':Δe 34 [.sl 1 0 (tagL A B).length 1 none] ⟨[(1,.cells (strs (tagL A B))),(0,.cells [.nilS,.nilS,.nilS,.nilS])],3⟩=_:=n1
  have n2':Δe 34 [.nilS] ⟨[(3,.cells (strs (nmS (tagL A B)++zt))),(1,.cells (strs (tagL A B))),(0,.cells [.nilS,.nilS,.nilS,.nilS])],4⟩=_:=zlh [(3,.cells (strs (nmS (tagL A B)++zt))),(1,.cells (strs (tagL A B))),(0,.cells [.nilS,.nilS,.nilS,.nilS])] 4 rfl
  have hW0:nmS (zai B)=[]:=by rw [w0];rfl
  have law:=law hv hp hc
  generalize rowN A (nmS (tagL A B)) k=rN at*
  generalize rowE B (nmS (tagL A B)) (nmS (zai B)) k=rE at*
  generalize nmS (tagL A B)=T at*
  generalize nmS (zai B)=W at*
  refine AXa.go mixed (hΓ) (zcD) (by kernel_rfl) ?_
  simp (disch:=first|assumption|(push_cast<;>omega)|omega) only [go_sem,n1',n2']
  have hWl0:W.length=0:=by rw [hW0];rfl
  by_cases hbig:40<T.length∨500<W.length
  ·have hb:decide (40<(T.length:Int))=true:=by
    simp only [Bool.or_eq_true,decide_eq_true_eq];omega
   rw [hb,if_pos hbig]
   simp (disch:=first|assumption|(push_cast<;>omega)|omega) only [go_sem,estV,mdlV,noM,zab]
  have hb:decide (40<(T.length:Int))=false:=by simp only [Bool.or_eq_false_iff,decide_eq_false_iff_not];omega
  rw [hb,if_neg hbig]
  have d1':Δe 35 [.fs (cnts A) A.length] ⟨[(3,.cells (strs (T++zt))),(1,.cells (strs (tagL A B))),(0,.cells [.sl 3 0 T.length 1 none,.nilS,.nilS,.nilS])],4⟩=_:=zgb A A.length [(3,.cells (strs (T++zt))),(1,.cells (strs (tagL A B))),(0,.cells [.sl 3 0 T.length 1 none,.nilS,.nilS,.nilS])] 4 rfl hA smA rfl
  have d2':Δe 35 [.fs (cnts B) B.length] ⟨[(5,.mp (mpS 0 (tabS A A.length)) (tabS A A.length).length),(4,.mp (mpF 0 (tabN A A.length)) (tabN A A.length).length),(3,.cells (strs (T++zt))),(1,.cells (strs (tagL A B))),(0,.cells [.sl 3 0 T.length 1 none,.nilS,.nilS,.nilS])],7⟩=_:=zgb B B.length [(5,.mp (mpS 0 (tabS A A.length)) (tabS A A.length).length),(4,.mp (mpF 0 (tabN A A.length)) (tabN A A.length).length),(3,.cells (strs (T++zt))),(1,.cells (strs (tagL A B))),(0,.cells [.sl 3 0 T.length 1 none,.nilS,.nilS,.nilS])] 7 rfl hB smB rfl
  generalize tabN A A.length=N1 at*
  generalize tabS A A.length=S1 at*
  generalize tabN B B.length=N2 at*
  generalize tabS B B.length=S2 at*
  simp (disch:=first|assumption|(push_cast<;>omega)|omega) only [go_sem,d1',d2']
  refine AXk.intro (by kernel_rfl) ?_
  simp (config:={ maxSteps:=2000000 }) (disch:=first|assumption|(push_cast<;>omega)|(with_unfolding_all exact id rfl)|omega) only [go_sem,zbQ,zb1,zcs,List.take_left,List.take_length]
  (repeat refine sdC ?_)
  refine AXs.loop mixed (hΓ) (zcD) (fun i:Nat=>[(1,.str k),(4,.ptr 0 0),(12,.ptr 11 0),(13,.ptr 12 0),(14,.sl 15 0 (T.length+1) 1 none),(94,.sl 15 0 (T.length+1) 1 none),(95,.int .i64 (T.length+1)),(96,.int .i64 i)])
   (fun i=>zdL (.sl 3 0 T.length 1 none) (.nilS) [(3,.cells (strs (T++zt)))] N1 N2 S1 S2 T (upR rN i) (upR rE i)) (fun i=>i≤T.length∧okR rN rE i) (fun i=>T.length - i) 0 (by kernel_rfl) ⟨Nat.zero_le _,fun j hj=>absurd hj (Nat.not_lt_zero j),fun j hj=>absurd hj (Nat.not_lt_zero j)⟩ (Sub.of0 [(5,4),(6,5),(8,7),(9,8),(11,10),(12,11),(15,14)] rfl rfl ?_ ?_) ?_
  ·simp only [go_sem]
   simp
  ·simp only [go_sem,zdL,zkn,zef,zc3]
   exact⟨zaf _ _ _ _ rfl rfl,zaH _ _ _ _ rfl rfl,zaf _ _ _ _ rfl rfl,zaH _ _ _ _ rfl rfl⟩
  rintro i ⟨h1,hok⟩
  have ln:=zcF rN i
  have le:=zcF rE i
  obtain⟨ok1,ok2,rw1,rw2,er1,er2⟩:=law i h1
  have tlen:(T++[[]]).length=T.length+1:=by simp
  have wlen:(W++[[]]).length=W.length+1:=by simp
  rw [tlen]at rw1
  rw [hW0,List.nil_append]at ok2 rw2
  have l1:([[]]:List Str).length=1:=rfl
  rw [l1]at rw2
  unfold rV at rw1 rw2
  have cs1:Blk.cells [V.str []]=Blk.cells (strs [[]]):=rfl
  by_cases hi:i<T.length
  ·have un:=zdz rN i
   have ue:=zdz rE i
   have e2:decide ((i:Int)<(T.length:Int)+1)=true:=decide_eq_true (by omega)
   have e4:decide ((i:Int)=(T.length:Int))=false:=decide_eq_false (by omega)
   by_cases i0:i=0
   ·have un0:upR rN i=[]:=by rw [i0];rfl
    have ue0:upR rE i=[]:=by rw [i0];rfl
    rw [un0,List.nil_append]at un
    rw [ue0,List.nil_append]at ue
    have un':upR rN (i+1)≠[]:=by rw [un];exact List.cons_ne_nil _ _
    have ue':upR rE (i+1)≠[]:=by rw [ue];exact List.cons_ne_nil _ _
    have ln':(upR rN (i+1)).length=1:=by rw [un];rfl
    have le':(upR rE (i+1)).length=1:=by rw [ue];rfl
    simp (config:={ maxSteps:=2000000 }) (disch:=first|assumption|(push_cast<;>omega)|(with_unfolding_all exact id rfl)|omega) only [go_sem,zdL,un0,ue0,zef,zc3,e2,tlen,l1,zb4,zgg,rw1,rw2,zaI,List.cons_append,List.nil_append,zbQ,zb1,zcs,zad,zA i ln,zA i le,List.take_left,List.take_length]
    (repeat refine sdC ?_)
    refine AXc.introN (fun h5=>?_) (fun h5=>?_)
    ·rw [zbk fun h=>h5 (h.1.1 i hi), ←er1 h5]
     simp (disch:=first|assumption|(push_cast<;>omega)|omega) only [go_sem,estV,mdlV,noM,zab]
    simp (config:={ maxSteps:=2000000 }) (disch:=first|assumption|(push_cast<;>omega)|(with_unfolding_all exact id rfl)|omega) only [go_sem,e4,cs1,e2,tlen,l1,zb4,zgg,rw1,rw2,zaI,List.cons_append,List.nil_append,zbQ,zb1,zcs,zad,zA i ln,zA i le,List.take_left,List.take_length]
    (repeat refine sdC ?_)
    try simp only [go_sem]
    refine AXc.introN (fun h6=>?_) (fun h6=>?_)
    ·rw [zbk fun h=>h6 (h.1.2 i hi), ←er2 h6]
     simp (disch:=first|assumption|(push_cast<;>omega)|omega) only [go_sem,estV,mdlV,noM,zab]
    simp (disch:=first|assumption|(push_cast<;>omega)|omega) only [go_sem,zad,zA i le]
    (repeat refine sdC ?_)
    refine zk (i+1) ⟨by omega,fun j hj=>?_,fun j hj=>?_⟩ (by omega) ?_
    ·rcases Nat.lt_or_ge j i with hji|hji
     ·exact hok.1 j hji
     ·obtain rfl:j=i:=by omega
      simpa using h5
    ·rcases Nat.lt_or_ge j i with hji|hji
     ·exact hok.2 j hji
     ·obtain rfl:j=i:=by omega
      simpa using h6
    ·simp only [zdL,zcr 16 un',zcr 17 ue',zbv 16 un',zbv 17 ue',ln',le']
     refine Sub.of0 [(16,19),(17,23)] rfl rfl ?_ ?_
     ·simp (disch:=first|assumption|(push_cast<;>omega)|omega) only [go_sem]
      simp
     ·rw [un,ue]
      simp only [go_sem]
      exact⟨zu (zaa _),zu (zaa _),zaf _ _ _ _ rfl rfl,zaH _ _ _ _ rfl rfl,zaf _ _ _ _ rfl rfl,zaH _ _ _ _ rfl rfl⟩
   ·have nn:=zd6 rN (i:=i) (by omega)
    have ne:=zd6 rE (i:=i) (by omega)
    have un':=zd6 rN (i:=i+1) (by omega)
    have ue':=zd6 rE (i:=i+1) (by omega)
    have ln':(upR rN (i+1)).length=i+1:=zcF _ _
    have le':(upR rE (i+1)).length=i+1:=zcF _ _
    simp (config:={ maxSteps:=2000000 }) (disch:=first|assumption|(push_cast<;>omega)|(with_unfolding_all exact id rfl)|omega) only [go_sem,zdL,zcr 16 nn,zcr 17 ne,zbv 16 nn,zbv 17 ne,ln,le,e2,tlen,l1,zb4,zgg,rw1,rw2,zaI,List.cons_append,List.nil_append,zbQ,zb1,zcs,zad,zA i ln,zA i le,List.take_left,List.take_length]
    (repeat refine sdC ?_)
    refine AXc.introN (fun h5=>?_) (fun h5=>?_)
    ·rw [zbk fun h=>h5 (h.1.1 i hi), ←er1 h5]
     simp (disch:=first|assumption|(push_cast<;>omega)|omega) only [go_sem,estV,mdlV,noM,zab]
    simp (config:={ maxSteps:=2000000 }) (disch:=first|assumption|(push_cast<;>omega)|(with_unfolding_all exact id rfl)|omega) only [go_sem,e4,cs1,e2,tlen,l1,zb4,zgg,rw1,rw2,zaI,List.cons_append,List.nil_append,zbQ,zb1,zcs,zad,zA i ln,zA i le,List.take_left,List.take_length]
    (repeat refine sdC ?_)
    try simp only [go_sem]
    refine AXc.introN (fun h6=>?_) (fun h6=>?_)
    ·rw [zbk fun h=>h6 (h.1.2 i hi), ←er2 h6]
     simp (disch:=first|assumption|(push_cast<;>omega)|omega) only [go_sem,estV,mdlV,noM,zab]
    simp (disch:=first|assumption|(push_cast<;>omega)|omega) only [go_sem,zad,zA i le]
    (repeat refine sdC ?_)
    refine zk (i+1) ⟨by omega,fun j hj=>?_,fun j hj=>?_⟩ (by omega) ?_
    ·rcases Nat.lt_or_ge j i with hji|hji
     ·exact hok.1 j hji
     ·obtain rfl:j=i:=by omega
      simpa using h5
    ·rcases Nat.lt_or_ge j i with hji|hji
     ·exact hok.2 j hji
     ·obtain rfl:j=i:=by omega
      simpa using h6
    ·simp only [zdL,zcr 16 un',zcr 17 ue',zbv 16 un',zbv 17 ue',ln',le']
     refine Sub.of0 [(16,19),(17,23)] rfl rfl ?_ ?_
     ·simp (disch:=first|assumption|(push_cast<;>omega)|omega) only [go_sem]
      simp
     ·rw [un,ue]
      simp only [go_sem]
      rw [←zby, ←zby]
      exact⟨zu fun x hx=>by rw [zby]at hx;exact zaa _ x hx,zu fun x hx=>by rw [zby]at hx;exact zaa _ x hx,zaf _ _ _ _ rfl rfl,zaH _ _ _ _ rfl rfl,zaf _ _ _ _ rfl rfl,zaH _ _ _ _ rfl rfl⟩
  obtain rfl:i=T.length:=by omega
  have un:=zdz rN T.length
  have e2:decide ((T.length:Int)<(T.length:Int)+1)=true:=decide_eq_true (by omega)
  have e4:decide ((T.length:Int)=(T.length:Int))=true:=decide_eq_true rfl
  by_cases i0:T.length=0
  ·have un0:upR rN T.length=[]:=by rw [i0];rfl
   have ue0:upR rE T.length=[]:=by rw [i0];rfl
   rw [un0,List.nil_append]at un
   simp (config:={ maxSteps:=2000000 }) (disch:=first|assumption|(push_cast<;>omega)|(with_unfolding_all exact id rfl)|omega) only [go_sem,zdL,un0,ue0,zef,zc3,e2,tlen,l1,zb4,zgg,rw1,rw2,zaI,List.cons_append,List.nil_append,zbQ,zb1,zcs,zad,zA T.length ln,zA T.length le,List.take_left,List.take_length]
   (repeat refine sdC ?_)
   refine AXc.introN (fun h5=>?_) (fun h5=>?_)
   ·rw [zbk fun h=>h5 h.2, ←er1 h5]
    simp (disch:=first|assumption|(push_cast<;>omega)|omega) only [go_sem,estV,mdlV,noM,zab]
   have h5':(rN T.length).1=0:=by simpa using h5
   rw [zfR hok h5',un,ue0]
   simp (disch:=first|assumption|(push_cast<;>omega)|omega) only [go_sem,e4,zad,zA T.length ln]
   (repeat refine sdC ?_)
   refine AXa.go mixed (hΓ) (zcD) (by kernel_rfl) ?_
   simp (disch:=first|assumption|(push_cast<;>omega)|omega) only [go_sem,estV,mdlV,zab]
   exact⟨Frz.slp rfl rfl (by simp [strs]) (by rw [List.drop_zero,Nat.mul_one,zbW,List.take_left]) (zT _),⟨by rw [hW0];rfl,by rw [hW0];rfl⟩,Frz.slp rfl rfl (by simp) rfl (zaa _)⟩
  ·have nn:=zd6 rN (i:=T.length) (by omega)
   have ne:=zd6 rE (i:=T.length) (by omega)
   simp (config:={ maxSteps:=2000000 }) (disch:=first|assumption|(push_cast<;>omega)|(with_unfolding_all exact id rfl)|omega) only [go_sem,zdL,zcr 16 nn,zcr 17 ne,zbv 16 nn,zbv 17 ne,ln,le,e2,tlen,l1,zb4,zgg,rw1,rw2,zaI,List.cons_append,List.nil_append,zbQ,zb1,zcs,zad,zA T.length ln,zA T.length le,List.take_left,List.take_length]
   (repeat refine sdC ?_)
   refine AXc.introN (fun h5=>?_) (fun h5=>?_)
   ·rw [zbk fun h=>h5 h.2, ←er1 h5]
    simp (disch:=first|assumption|(push_cast<;>omega)|omega) only [go_sem,estV,mdlV,noM,zab]
   have h5':(rN T.length).1=0:=by simpa using h5
   rw [zfR hok h5',un]
   simp (disch:=first|assumption|(push_cast<;>omega)|omega) only [go_sem,e4,zad,zA T.length ln]
   (repeat refine sdC ?_)
   refine AXa.go mixed (hΓ) (zcD) (by kernel_rfl) ?_
   simp (disch:=first|assumption|(push_cast<;>omega)|omega) only [go_sem,estV,mdlV,zab]
   exact⟨Frz.slp rfl rfl (by simp [strs]) (by rw [List.drop_zero,Nat.mul_one,zbW,List.take_left]) (zT _),⟨by rw [hW0];rfl,by rw [hW0];rfl⟩,Frz.slp rfl (by simp [ln]) (by simp [zbB,ln]) (by rw [List.drop_zero,Nat.mul_one,List.take_of_length_le (by simp [zbB,ln]),zby]) (zaa _),Frz.slp rfl le (by simp [zbB,le]) (by rw [List.drop_zero,Nat.mul_one,List.take_of_length_le (by simp [zbB,le])]) (zaa _)⟩
 ·have x3:slS 2 (zai B)=.nilS:=by rw [w0];rfl
  have x4:∀ bs,blkS 2 (zai B) bs=bs:=fun _=>by rw [w0];rfl
  have x1:slS 1 (tagL A B)=.nilS:=by rw [t0];rfl
  have x2:∀ bs,blkS 1 (tagL A B) bs=bs:=fun _=>by rw [t0];rfl
  simp only [x1,x2,x3,x4]
  have n1':Δe 34 [.nilS] ⟨[(0,.cells [.nilS,.nilS,.nilS,.nilS])],3⟩=_:=zlh [(0,.cells [.nilS,.nilS,.nilS,.nilS])] 3 rfl
  have n2':Δe 34 [.nilS] ⟨[(0,.cells [.nilS,.nilS,.nilS,.nilS])],3⟩=_:=zlh [(0,.cells [.nilS,.nilS,.nilS,.nilS])] 3 rfl
  have hW0:nmS (zai B)=[]:=by rw [w0];rfl
  have hT0:nmS (tagL A B)=[]:=by rw [t0];rfl
  have law:=law hv hp hc
  generalize rowN A (nmS (tagL A B)) k=rN at*
  generalize rowE B (nmS (tagL A B)) (nmS (zai B)) k=rE at*
  generalize nmS (tagL A B)=T at*
  generalize nmS (zai B)=W at*
  refine AXa.go mixed (hΓ) (zcD) (by kernel_rfl) ?_
  simp (disch:=first|assumption|(push_cast<;>omega)|omega) only [go_sem,n1',n2']
  rw [if_neg (by rw [hT0,hW0];simp)]
  have d1':Δe 35 [.fs (cnts A) A.length] ⟨[(0,.cells [.nilS,.nilS,.nilS,.nilS])],3⟩=_:=zgb A A.length [(0,.cells [.nilS,.nilS,.nilS,.nilS])] 3 rfl hA smA rfl
  have d2':Δe 35 [.fs (cnts B) B.length] ⟨[(4,.mp (mpS 0 (tabS A A.length)) (tabS A A.length).length),(3,.mp (mpF 0 (tabN A A.length)) (tabN A A.length).length),(0,.cells [.nilS,.nilS,.nilS,.nilS])],6⟩=_:=zgb B B.length [(4,.mp (mpS 0 (tabS A A.length)) (tabS A A.length).length),(3,.mp (mpF 0 (tabN A A.length)) (tabN A A.length).length),(0,.cells [.nilS,.nilS,.nilS,.nilS])] 6 rfl hB smB rfl
  generalize tabN A A.length=N1 at*
  generalize tabS A A.length=S1 at*
  generalize tabN B B.length=N2 at*
  generalize tabS B B.length=S2 at*
  simp (disch:=first|assumption|(push_cast<;>omega)|omega) only [go_sem,d1',d2']
  refine AXk.intro (by kernel_rfl) ?_
  simp (config:={ maxSteps:=2000000 }) (disch:=first|assumption|(push_cast<;>omega)|(with_unfolding_all exact id rfl)|omega) only [go_sem,zcs,List.take_left,List.take_length]
  (repeat refine sdC ?_)
  refine AXs.loop mixed (hΓ) (zcD) (fun i:Nat=>[(1,.str k),(4,.ptr 0 0),(12,.ptr 11 0),(13,.ptr 12 0),(14,.sl 15 0 (T.length+1) 1 none),(94,.sl 15 0 (T.length+1) 1 none),(95,.int .i64 (T.length+1)),(96,.int .i64 i)])
   (fun i=>zdL (.nilS) (.nilS) [] N1 N2 S1 S2 T (upR rN i) (upR rE i)) (fun i=>i≤T.length∧okR rN rE i) (fun i=>T.length - i) 0 (by kernel_rfl) ⟨Nat.zero_le _,fun j hj=>absurd hj (Nat.not_lt_zero j),fun j hj=>absurd hj (Nat.not_lt_zero j)⟩ (Sub.of0 [(5,3),(6,4),(8,6),(9,7),(11,9),(12,10),(15,12)] rfl rfl ?_ ?_) ?_
  ·simp only [go_sem]
   exact⟨by rw [hT0];rfl,by rw [hT0];rfl,by rw [hT0];rfl⟩
  ·simp only [go_sem,zdL,zkn,zef,zc3]
   exact⟨by rw [hT0];rfl,zaf _ _ _ _ rfl rfl,zaH _ _ _ _ rfl rfl,zaf _ _ _ _ rfl rfl,zaH _ _ _ _ rfl rfl⟩
  rintro i ⟨h1,hok⟩
  have ln:=zcF rN i
  have le:=zcF rE i
  obtain⟨ok1,ok2,rw1,rw2,er1,er2⟩:=law i h1
  have tlen:(T++[[]]).length=T.length+1:=by simp
  have wlen:(W++[[]]).length=W.length+1:=by simp
  rw [tlen]at rw1
  rw [wlen]at rw2
  unfold rV at rw1 rw2
  obtain rfl:i=T.length:=by rw [hT0]at h1 ⊢;simpa using h1
  have i0:T.length=0:=by rw [hT0];rfl
  have e40:decide ((T.length:Int)=0)=true:=by rw [i0];rfl
  have un:=zdz rN T.length
  have e2:decide ((T.length:Int)<(T.length:Int)+1)=true:=decide_eq_true (by omega)
  have e4:decide ((T.length:Int)=(T.length:Int))=true:=decide_eq_true rfl
  have un0:upR rN T.length=[]:=by rw [i0];rfl
  have ue0:upR rE T.length=[]:=by rw [i0];rfl
  rw [un0,List.nil_append]at un
  simp (config:={ maxSteps:=2000000 }) (disch:=first|assumption|(push_cast<;>omega)|(with_unfolding_all exact id rfl)|omega) only [go_sem,zdL,un0,ue0,zef,zc3,e2,tlen,wlen,zb4,zgg,rw1,rw2,zaI,List.cons_append,List.nil_append,zcs,zad,zA T.length ln,zA T.length le,List.take_left,List.take_length]
  (repeat refine sdC ?_)
  refine AXc.introN (fun h5=>?_) (fun h5=>?_)
  ·rw [zbk fun h=>h5 h.2, ←er1 h5]
   simp (disch:=first|assumption|(push_cast<;>omega)|omega) only [go_sem,estV,mdlV,noM,zab]
  have h5':(rN T.length).1=0:=by simpa using h5
  rw [zfR hok h5',un,ue0]
  simp (disch:=first|assumption|(push_cast<;>omega)|omega) only [go_sem,e4,e40,zad,zA T.length ln]
  (repeat refine sdC ?_)
  refine AXa.go mixed (hΓ) (zcD) (by kernel_rfl) ?_
  simp (disch:=first|assumption|(push_cast<;>omega)|omega) only [go_sem,estV,mdlV,zab]
  exact⟨⟨by rw [hT0];rfl,i0⟩,⟨by rw [hW0];rfl,by rw [hW0];rfl⟩,Frz.slp rfl rfl (by simp) rfl (zaa _)⟩
end Go.Proofs
