/- Estimating, as the program does (counts.Estimate). -/
import Derived.Test.YtfilkkmcagndlaaGreatDoorPRow
import Derived.Test.YtfilkkmcagndlaaGreatDoorPNames
import Derived.Test.YtfilkkmcagndlaaGreatDoorQRat2
set_option linter.all false
namespace Go.Proofs
open Go.Ab Go.Cnt Go.Pl
noncomputable def Δe:FuncId→List V→Hp→Option AR:=zc4 34 (conD NamR) (zc4 35 (conD TabR) (zc4 36 (conD CloR) (zc4 37 (conD RowR) noΔ)))
theorem zcQ:zbJ Tryz.prog Δe:=zaE (zbb namR_ok) (zaE (zbb tabR_ok) (zaE (zbb zp6) (zaE (zbb rowR_ok) zg)))
def tagI(A B:List Ent)(i:Nat):List Str:=zcC A++(B.take i).map fun e=>e.1.1
def zgm(B:List Ent)(i:Nat):List Str:=(B.take i).map fun e=>e.1.2
theorem zuw(A:List Ent)(i:Nat)(h:i<A.length):zcC (A.take (i+1))=zcC (A.take i)++[(nthE A i).1.1,(nthE A i).1.2]:=by rw [zby A i h,znP];rfl
theorem zv1(A B:List Ent)(i:Nat)(h:i<B.length):tagI A B (i+1)=tagI A B i++[(nthE B i).1.1]:=by unfold tagI;rw [zby B i h,List.map_append,List.append_assoc];rfl
theorem zsy(B:List Ent)(i:Nat)(h:i<B.length):zgm B (i+1)=zgm B i++[(nthE B i).1.2]:=by unfold zgm;rw [zby B i h,List.map_append];rfl
theorem strs_two(L:List Str)(a b:Str):strs L++[.str a,.str b]=strs (L++[a,b]):=by simp [strs]
noncomputable def cK(o:Option Blk)(n b:Nat)(bs:List (Nat×Blk))(nx:Nat):Option AR:=match o with|some _=>Δe 36 [.sl b 0 n 1 none] ⟨bs,nx⟩|none=>Δe 36 [.sl b 0 n 1 none] ⟨bs,nx⟩
theorem zb0(n b:Nat)(bs:List (Nat×Blk))(nx:Nat):Δe 36 [.sl b 0 n 1 none] ⟨bs,nx⟩=cK (zaB bs b) n b bs nx:=by unfold cK;split<;>rfl
theorem zb7(X:List Str)(n b:Nat)(bs:List (Nat×Blk))(nx:Nat)(hb:zaB bs b=some (.cells (strs X)))(hX:X.length≤1000000)(hm:n≤X.length)(hk:((keysB bs).all fun b=>decide (b<nx))=true):
 cK (some (.cells (strs X))) n b bs nx=some ⟨True,.sl nx 0 n 1 none,⟨(nx,.cells (strs (X.take n)))::bs,nx+1⟩,[b],[]⟩:=zy9 b n X bs nx hb hm hX hk
theorem zcF(bs:List (Nat×Blk))(nx:Nat)(hk:((keysB bs).all fun b=>decide (b<nx))=true):Δe 36 [.nilS] ⟨bs,nx⟩=some ⟨True,.nilS,⟨bs,nx⟩,[],[]⟩:=zrU bs nx hk
noncomputable def rK(o0 o1 o2:Option Blk)(a:Str)(n:Nat)(k:Str)(b0 b1 b2:Nat)(bs:List (Nat×Blk))(nx:Nat):Option AR:=match o0,o1,o2 with|_,_,_=>Δe 37 [.agg [.map b0,.map b1],.str a,.sl b2 0 n 1 none,.str k] ⟨bs,nx⟩
theorem zcd(a:Str)(n:Nat)(k:Str)(b0 b1 b2:Nat)(bs:List (Nat×Blk))(nx:Nat):Δe 37 [.agg [.map b0,.map b1],.str a,.sl b2 0 n 1 none,.str k] ⟨bs,nx⟩=rK (zaB bs b0) (zaB bs b1) (zaB bs b2) a n k b0 b1 b2 bs nx:=rfl
def nod3(a b c:Nat):Bool:=decide (a≠b∧a≠c∧b≠c)
theorem nod3_ok {a b c:Nat}(h:nod3 a b c=true):[a,b,c].Nodup:=by obtain⟨h1,h2,h3⟩:=of_decide_eq_true h;simp [h1,h2,h3]
theorem zgy(N:List Ent)(S:Ens)(L:List Str)(a:Str)(n:Nat)(k:Str)(c0 c1:Nat)(b0 b1 b2:Nat)(bs:List (Nat×Blk))(nx:Nat)(ok:RowOK N S L a k)(hn:n=L.length)(h0:zaB bs b0=some (.mp (mpF 0 N) N.length))(h1:zaB bs b1=some (.mp (mpS 0 S) S.length))(h2:zaB bs b2=some (.cells (strs L)))
 (hnd:nod3 b0 b1 b2=true) (hk:((keysB bs).all fun b=>decide (b<nx))=true):
 rK (some (.mp (mpF 0 N) c0)) (some (.mp (mpS 0 S) c1)) (some (.cells (strs L))) a n k b0 b1 b2 bs nx=some ⟨True,zcG k L.length (valS S a).toNat (cntL N a L),⟨bs,nx⟩,[b0,b1,b2],[]⟩:=rowR_eq b0 b1 b2 N S L a k n bs nx h0 h1 h2 hn ok (nod3_ok hnd) hk
theorem zaY(b:Nat):zdX (.map b)=[]:=rfl
def zd2(tv wv:V)(b1:List (Nat×Blk))(N1 N2:List Ent)(S1 S2:Ens)(T:List Str)(N E:List (List Str)):Hp:=
 ⟨blkM 17 E (blkM 16 N ((15,.cells (strs (T++[[]])))::(12,.cells [.map 8,.map 9])::(11,.cells [.map 5,.map 6])::(9,.mp (mpS 0 S2) S2.length)::(8,.mp (mpF 0 N2) N2.length)::(6,.mp (mpS 0 S1) S1.length)::(5,.mp (mpF 0 N1) N1.length)::(0,.cells [tv,wv,slM 16 N,slM 17 E])::b1)),18⟩
def rV(p:Int×List Str):V:=.tup [.fs (strs p.2) p.2.length,.int .i64 p.1]
set_option maxHeartbeats 16000000 in
set_option maxRecDepth 100000 in
theorem pest_ok(A B:List Ent)(k:Str)(hA:A.length≤100000)(hB:B.length≤100000)(sA:zaG A)(sB:zaG B)(lk:k.length≤1000000)(hneg:(ratP k).isSome=true→(zdz k [48]<0↔k.head? =some 45))
 (law:zct A B=true→(ratP k).isSome=true→k.head? ≠some 45→∀ i,i≤(nmS (tagL A B)).length→
  RowOK (tabN A A.length) (tabS A A.length) (nmS (tagL A B)++[[]]) ((nmS (tagL A B)++[[]]).getD i []) k∧RowOK (tabN B B.length) (tabS B B.length) (nmS (zaq B)++[[]]) ((nmS (tagL A B)++[[]]).getD i []) k∧
  zcG k (nmS (tagL A B)++[[]]).length (valS (tabS A A.length) ((nmS (tagL A B)++[[]]).getD i [])).toNat (cntL (tabN A A.length) ((nmS (tagL A B)++[[]]).getD i []) (nmS (tagL A B)++[[]]))=rV (rowN A (nmS (tagL A B)) k i)∧
  zcG k (nmS (zaq B)++[[]]).length (valS (tabS B B.length) ((nmS (tagL A B)++[[]]).getD i [])).toNat (cntL (tabN B B.length) ((nmS (tagL A B)++[[]]).getD i []) (nmS (zaq B)++[[]]))=rV (rowE B (nmS (tagL A B)) (nmS (zaq B)) k i)∧
  ((rowN A (nmS (tagL A B)) k i).1≠0→(rowN A (nmS (tagL A B)) k i).1=2)∧((rowE B (nmS (tagL A B)) (nmS (zaq B)) k i).1≠0→(rowE B (nmS (tagL A B)) (nmS (zaq B)) k i).1=2)):
 PCall Tryz.prog 13 [.agg [.fs (cnts A) A.length,.fs (cnts B) B.length],.str k] (.ret (estV (estR A B k))):=by
 have hΓ:=zf zvp (zf zg5 (zf zu5 zh))
 have v3:ziY [.str k]=some (.ret (.bool (ratP k).isSome)):=zob k (by omega)
 have v4:zqh [.str k,.str [48]]=some (.ret (.int .i64 (zdz k [48]))):=zu6 k [48] (by omega) (by decide)
 refine PCall.walk (rs:=[.cell 4 28,.tmp 5]) [0,1,2,4,5,6,7,9,11,12,13,14,15,16,17,18,31,34,35,36,37,49,50,51,52,81,94,95,96,97,110,123,137] [24] mixed (hΓ) (zcQ) call13 Tryz.func13 rfl Tryz.ntmps13 rfl (by kernel_rfl) (by simp) (by simp [push_cast]) ?_
 cases hv:zct A B with
 |false=>
  have hr:estR A B k=(noM,1):=by unfold estR;rw [hv];rfl
  rw [hr]
  simp (disch:=first|assumption|(push_cast<;>omega)|omega) only [go_sem,hv,estV,mdlV,noM,zN]
 |true=>
 cases hp:(ratP k).isSome with
 |false=>
  have hr:estR A B k=(noM,1):=by unfold estR;rw [hv,hp];rfl
  rw [hr]
  simp (disch:=first|assumption|(push_cast<;>omega)|omega) only [go_sem,hv,v3,hp,estV,mdlV,noM,zN]
 |true=>
 have hneg:=hneg hp
 simp (disch:=first|assumption|(push_cast<;>omega)|omega) only [go_sem,hv,v3,v4,hp]
 rw [decide_eq_decide.2 hneg]
 refine AXc.introP (fun hc=>?_) (fun hc=>?_)
 ·have hr:estR A B k=(noM,1):=by unfold estR;rw [hv,hp,hc];rfl
  rw [hr]
  simp (disch:=first|assumption|(push_cast<;>omega)|omega) only [go_sem,estV,mdlV,noM,zN]
 have hr:estR A B k=if 40<(nmS (tagL A B)).length∨500<(nmS (zaq B)).length then(noM,2)else estG (nmS (tagL A B)) (nmS (zaq B)) (rowN A (nmS (tagL A B)) k) (rowE B (nmS (tagL A B)) (nmS (zaq B)) k):=by unfold estR;rw [hv,hp,if_pos];simp [hc]
 rw [hr]
 clear hr
 obtain⟨smA,smB⟩:=zes hv
 have fl0:zcC []=[]:=rfl
 have pAB:∀ x∈[V.fs (cnts A) A.length,V.fs (cnts B) B.length],Ab.Pure x:=by
  intro x hx;simp only [List.mem_cons,List.not_mem_nil,or_false]at hx;rcases hx with rfl|rfl
  ·exact .fs (zcv A)
  ·exact .fs (zcv B)
 simp (disch:=first|assumption|(push_cast<;>omega)|omega) only [go_sem]
 refine AXs.loop mixed (hΓ) (zcQ) (fun i:Nat=>[(1,.str k),(2,.fp [.fs (cnts A) A.length,.fs (cnts B) B.length]),(4,.ptr 0 0),(6,slS 1 (zcC (A.take i))),(7,.nilS),(34,.fs (cnts A) A.length),(35,.int .i64 A.length),(36,.int .i64 i)])
  (fun i=>⟨blkS 1 (zcC (A.take i)) [(0,.cells [.nilS,.nilS,.nilS,.nilS])],3⟩) (fun i=>i≤A.length) (fun i=>A.length - i) 0 (by kernel_rfl) (Nat.zero_le _) (Sub.of0 [] rfl rfl ?_ ?_) ?_
 ·simp only [go_sem,List.take_zero,fl0,zQ]
  exact pAB
 ·simp only [go_sem,List.take_zero,fl0,zF]
 intro i h1
 simp (disch:=first|assumption|(push_cast<;>omega)|omega) only [go_sem]
 refine AXc.introP (fun h3=>?_) (fun h3=>?_)
 ·have hi:i<A.length:=by omega
  have at1:=zci A i hi
  have hst:=zuw A i hi
  have fln:=zc3 (A.take i)
  rw [List.length_take,Nat.min_eq_left h1]at fln
  have nn:zcC (A.take (i+1))≠[]:=by rw [hst];simp
  have nl:(zcC (A.take (i+1))).length=2*i+2:=by rw [hst,List.length_append,fln];rfl
  by_cases n0:zcC (A.take i)=[]
  ·rw [n0]at hst fln
   simp (disch:=first|assumption|(push_cast<;>omega)|omega) only [go_sem,at1,n0,zQ,zF]
   (repeat refine sdC ?_)
   refine zi (i+1) (by omega) (by omega) ?_
   rw [zD 1 nn,zq 1 nn,nl,hst]
   refine Sub.of0 [(1,5)] rfl rfl ?_ ?_
   ·simp only [go_sem]
    exact⟨pAB,by simpa using fln.symm,by simp⟩
   ·simp only [go_sem]
    rfl
  ·simp (disch:=first|assumption|(push_cast<;>omega)|omega) only [go_sem,at1,zD 1 n0,zq 1 n0,fln]
   (repeat refine sdC ?_)
   refine zi (i+1) (by omega) (by omega) ?_
   rw [zD 1 nn,zq 1 nn,nl,hst]
   refine Sub.of0 [(1,5)] rfl rfl ?_ ?_
   ·simp only [go_sem]
    exact⟨pAB,by simp⟩
   ·simp only [go_sem]
    rw [List.take_of_length_le (by omega),strs_two]
 obtain rfl:i=A.length:=by omega
 rw [List.take_length]
 simp only [go_sem]
 refine AXa.go mixed (hΓ) (zcQ) (by kernel_rfl) ?_
 simp (disch:=first|assumption|(push_cast<;>omega)|omega) only [go_sem]
 refine AXs.loop mixed (hΓ) (zcQ) (fun i:Nat=>[(1,.str k),(2,.fp [.fs (cnts A) A.length,.fs (cnts B) B.length]),(4,.ptr 0 0),(6,slS 1 (tagI A B i)),(7,slS 2 (zgm B i)),(49,.fs (cnts B) B.length),(50,.int .i64 B.length),(51,.int .i64 i)])
  (fun i=>⟨blkS 2 (zgm B i) (blkS 1 (tagI A B i) [(0,.cells [.nilS,.nilS,.nilS,.nilS])]),3⟩) (fun i=>i≤B.length) (fun i=>B.length - i) 0 (by kernel_rfl) (Nat.zero_le _) ?_ ?_
 ·have t0:tagI A B 0=zcC A:=by unfold tagI;simp
  have w0:zgm B 0=[]:=rfl
  rw [t0,w0]
  by_cases n0:zcC A=[]
  ·simp only [n0,zQ,zF]
   refine Sub.of0 [] rfl rfl ?_ ?_
   ·simp only [go_sem]
    exact pAB
   ·simp only [go_sem]
  ·simp only [zD 1 n0,zq 1 n0,zQ,zF]
   refine Sub.of0 [] rfl rfl ?_ ?_
   ·simp only [go_sem]
    exact pAB
   ·simp only [go_sem]
 intro i h1
 simp (disch:=first|assumption|(push_cast<;>omega)|omega) only [go_sem]
 refine AXc.introP (fun h3=>?_) (fun h3=>?_)
 ·have hi:i<B.length:=by omega
  have at1:=zci B i hi
  have hst:=zv1 A B i hi
  have hsw:=zsy B i hi
  have fln:(tagI A B i).length=2*A.length+i:=by unfold tagI;rw [List.length_append,zc3,List.length_map,List.length_take,Nat.min_eq_left h1]
  have wln:(zgm B i).length=i:=by unfold zgm;rw [List.length_map,List.length_take,Nat.min_eq_left h1]
  have nn:tagI A B (i+1)≠[]:=by rw [hst];simp
  have nw:zgm B (i+1)≠[]:=by rw [hsw];simp
  have hwr:IntKind.wrap .i64 ((i:Int)+1)=(i:Int)+1:=wrap_i64 _ (by omega) (by omega)
  have nl:(tagI A B (i+1)).length=2*A.length+i+1:=by rw [hst,List.length_append,fln];rfl
  have wl:(zgm B (i+1)).length=i+1:=by rw [hsw,List.length_append,wln];rfl
  by_cases n0:tagI A B i=[]<;>by_cases w0:zgm B i=[]
  ·rw [n0,List.length_nil]at fln
   rw [w0,List.length_nil]at wln
   rw [n0]at hst
   rw [w0]at hsw
   simp (disch:=first|assumption|(push_cast<;>omega)|omega) only [go_sem,at1,n0,w0,zQ,zF]
   (repeat refine sdC ?_)
   try simp only [go_sem,hwr]
   refine zi (i+1) (by omega) (by omega) ?_
   rw [zD 1 nn,zq 1 nn,zD 2 nw,zq 2 nw,nl,wl,hst,hsw]
   refine Sub.of0 [(1,5),(2,7)] rfl rfl ?_ ?_
   ·simp only [go_sem]
    exact⟨pAB,by omega,by omega,by simp⟩
   ·simp only [go_sem]
    exact⟨rfl,rfl⟩
  ·rw [n0,List.length_nil]at fln
   skip
   rw [n0]at hst
   skip
   simp (disch:=first|assumption|(push_cast<;>omega)|omega) only [go_sem,at1,n0,zQ,zF,zD 2 w0,zq 2 w0,wln]
   (repeat refine sdC ?_)
   try simp only [go_sem,hwr]
   refine zi (i+1) (by omega) (by omega) ?_
   rw [zD 1 nn,zq 1 nn,zD 2 nw,zq 2 nw,nl,wl,hst,hsw]
   refine Sub.of0 [(1,5),(2,7)] rfl rfl ?_ ?_
   ·simp only [go_sem]
    exact⟨pAB,by omega,by simp⟩
   ·simp only [go_sem]
    exact⟨by rw [List.take_of_length_le (by omega)],rfl⟩
  ·skip
   rw [w0,List.length_nil]at wln
   skip
   rw [w0]at hsw
   simp (disch:=first|assumption|(push_cast<;>omega)|omega) only [go_sem,at1,w0,zQ,zF,zD 1 n0,zq 1 n0,fln]
   (repeat refine sdC ?_)
   try simp only [go_sem,hwr]
   refine zi (i+1) (by omega) (by omega) ?_
   rw [zD 1 nn,zq 1 nn,zD 2 nw,zq 2 nw,nl,wl,hst,hsw]
   refine Sub.of0 [(1,5),(2,7)] rfl rfl ?_ ?_
   ·simp only [go_sem]
    exact⟨pAB,by omega,by simp⟩
   ·simp only [go_sem]
    exact⟨rfl,by rw [List.take_of_length_le (by omega)]⟩
  ·skip
   skip
   skip
   skip
   simp (disch:=first|assumption|(push_cast<;>omega)|omega) only [go_sem,at1,zD 1 n0,zq 1 n0,zD 2 w0,zq 2 w0,fln,wln]
   (repeat refine sdC ?_)
   try simp only [go_sem,hwr]
   refine zi (i+1) (by omega) (by omega) ?_
   rw [zD 1 nn,zq 1 nn,zD 2 nw,zq 2 nw,nl,wl,hst,hsw]
   refine Sub.of0 [(1,5),(2,7)] rfl rfl ?_ ?_
   ·simp only [go_sem]
    exact⟨pAB,by simp⟩
   ·simp only [go_sem]
    exact⟨by rw [List.take_of_length_le (by omega)],by rw [List.take_of_length_le (by omega)]⟩
 obtain rfl:i=B.length:=by omega
 have tA:tagI A B B.length=tagL A B:=by unfold tagI tagL;rw [List.take_length]
 have wA:zgm B B.length=zaq B:=by unfold zgm zaq;rw [List.take_length]
 have tl:(tagL A B).length=2*A.length+B.length:=by unfold tagL;rw [List.length_append,zc3,List.length_map]
 have wl:(zaq B).length=B.length:=by unfold zaq;rw [List.length_map]
 rw [tA,wA]
 have qT:=zit (tagL A B)
 have qW:=zit (zaq B)
 simp only [go_sem]
 by_cases w0:zaq B=[]
 rotate_left
 ·have t0:tagL A B≠[]:=by
   intro e
   have h1:=congrArg List.length e
   rw [tl,List.length_nil]at h1
   exact w0 (List.eq_nil_of_length_eq_zero (by omega))
  simp only [zD 1 t0,zq 1 t0,zD 2 w0,zq 2 w0]
  have n1:=zpv 1 (tagL A B).length (tagL A B) [(2,.cells (strs (zaq B))),(1,.cells (strs (tagL A B))),(0,.cells [.nilS,.nilS,.nilS,.nilS])] 3 rfl rfl (by omega) rfl
  have hTz:(nmS (tagL A B)++zerS ((tagL A B).length - (nmS (tagL A B)).length)).length≤1000000:=by rw [List.length_append];simp only [zerS,List.length_replicate];omega
  generalize zerS ((tagL A B).length - (nmS (tagL A B)).length)=zt at n1 hTz
  have n1':Δe 34 [.sl 1 0 (tagL A B).length 1 none] ⟨[(2,.cells (strs (zaq B))),(1,.cells (strs (tagL A B))),(0,.cells [.nilS,.nilS,.nilS,.nilS])],3⟩=_:=n1
  have n2:=zpv 2 (zaq B).length (zaq B) [(3,.cells (strs (nmS (tagL A B)++zt))),(2,.cells (strs (zaq B))),(1,.cells (strs (tagL A B))),(0,.cells [.nilS,.nilS,.nilS,.nilS])] 4 rfl rfl (by omega) rfl
  have hWz:(nmS (zaq B)++zerS ((zaq B).length - (nmS (zaq B)).length)).length≤1000000:=by rw [List.length_append];simp only [zerS,List.length_replicate];omega
  generalize zerS ((zaq B).length - (nmS (zaq B)).length)=zw at n2 hWz
  have n2':Δe 34 [.sl 2 0 (zaq B).length 1 none] ⟨[(3,.cells (strs (nmS (tagL A B)++zt))),(2,.cells (strs (zaq B))),(1,.cells (strs (tagL A B))),(0,.cells [.nilS,.nilS,.nilS,.nilS])],4⟩=_:=n2
  have law:=law hv hp hc
  generalize rowN A (nmS (tagL A B)) k=rN at*
  generalize rowE B (nmS (tagL A B)) (nmS (zaq B)) k=rE at*
  generalize nmS (tagL A B)=T at*
  generalize nmS (zaq B)=W at*
  refine AXa.go mixed (hΓ) (zcQ) (by kernel_rfl) ?_
  simp (disch:=first|assumption|(push_cast<;>omega)|omega) only [go_sem,n1',n2']
  by_cases hbig:40<T.length∨500<W.length
  ·have hb:(decide (40<(T.length:Int))||decide (500<(W.length:Int)))=true:=by
    simp only [Bool.or_eq_true,decide_eq_true_eq];omega
   rw [hb,if_pos hbig]
   simp (disch:=first|assumption|(push_cast<;>omega)|omega) only [go_sem,estV,mdlV,noM,zN]
  have hb:(decide (40<(T.length:Int))||decide (500<(W.length:Int)))=false:=by simp only [Bool.or_eq_false_iff,decide_eq_false_iff_not];omega
  rw [hb,if_neg hbig]
  have d1':Δe 35 [.fs (cnts A) A.length] ⟨[(4,.cells (strs (W++zw))),(3,.cells (strs (T++zt))),(2,.cells (strs (zaq B))),(1,.cells (strs (tagL A B))),(0,.cells [.sl 3 0 T.length 1 none,.sl 4 0 W.length 1 none,.nilS,.nilS])],5⟩=_:=zgr A A.length [(4,.cells (strs (W++zw))),(3,.cells (strs (T++zt))),(2,.cells (strs (zaq B))),(1,.cells (strs (tagL A B))),(0,.cells [.sl 3 0 T.length 1 none,.sl 4 0 W.length 1 none,.nilS,.nilS])] 5 rfl hA smA rfl
  have d2':Δe 35 [.fs (cnts B) B.length] ⟨[(6,.mp (mpS 0 (tabS A A.length)) (tabS A A.length).length),(5,.mp (mpF 0 (tabN A A.length)) (tabN A A.length).length),(4,.cells (strs (W++zw))),(3,.cells (strs (T++zt))),(2,.cells (strs (zaq B))),(1,.cells (strs (tagL A B))),(0,.cells [.sl 3 0 T.length 1 none,.sl 4 0 W.length 1 none,.nilS,.nilS])],8⟩=_:=zgr B B.length [(6,.mp (mpS 0 (tabS A A.length)) (tabS A A.length).length),(5,.mp (mpF 0 (tabN A A.length)) (tabN A A.length).length),(4,.cells (strs (W++zw))),(3,.cells (strs (T++zt))),(2,.cells (strs (zaq B))),(1,.cells (strs (tagL A B))),(0,.cells [.sl 3 0 T.length 1 none,.sl 4 0 W.length 1 none,.nilS,.nilS])] 8 rfl hB smB rfl
  generalize tabN A A.length=N1 at*
  generalize tabS A A.length=S1 at*
  generalize tabN B B.length=N2 at*
  generalize tabS B B.length=S2 at*
  simp (disch:=first|assumption|(push_cast<;>omega)|omega) only [go_sem,d1',d2']
  refine AXk.intro (by kernel_rfl) ?_
  simp (config:={ maxSteps:=2000000 }) (disch:=first|assumption|(push_cast<;>omega)|(with_unfolding_all exact id rfl)|omega) only [go_sem,zb0,zb7,List.take_left,List.take_length]
  (repeat refine sdC ?_)
  refine AXs.loop mixed (hΓ) (zcQ) (fun i:Nat=>[(1,.str k),(4,.ptr 0 0),(12,.ptr 11 0),(13,.ptr 12 0),(14,.sl 15 0 (T.length+1) 1 none),(94,.sl 15 0 (T.length+1) 1 none),(95,.int .i64 (T.length+1)),(96,.int .i64 i)])
   (fun i=>zd2 (.sl 3 0 T.length 1 none) (.sl 4 0 W.length 1 none) [(4,.cells (strs (W++zw))),(3,.cells (strs (T++zt)))] N1 N2 S1 S2 T (upR rN i) (upR rE i)) (fun i=>i≤T.length∧okR rN rE i) (fun i=>T.length - i) 0 (by kernel_rfl) ⟨Nat.zero_le _,fun j hj=>absurd hj (Nat.not_lt_zero j),fun j hj=>absurd hj (Nat.not_lt_zero j)⟩ (Sub.of0 [] rfl rfl ?_ ?_) ?_
  ·simp only [go_sem]
   simp
  ·simp only [go_sem,zd2,zhi,zcU,zb8]
   exact⟨zan _ _ _ _ rfl rfl,zaR _ _ _ _ rfl rfl,zan _ _ _ _ rfl rfl,zaR _ _ _ _ rfl rfl⟩
  rintro i ⟨h1,hok⟩
  have ln:=zbT rN i
  have le:=zbT rE i
  obtain⟨ok1,ok2,rw1,rw2,er1,er2⟩:=law i h1
  have tlen:(T++[[]]).length=T.length+1:=by simp
  have wlen:(W++[[]]).length=W.length+1:=by simp
  rw [tlen]at rw1
  rw [wlen]at rw2
  unfold rV at rw1 rw2
  by_cases hi:i<T.length
  ·have un:=zcm rN i
   have ue:=zcm rE i
   have e2:decide ((i:Int)<(T.length:Int)+1)=true:=decide_eq_true (by omega)
   have e4:decide ((i:Int)=(T.length:Int))=false:=decide_eq_false (by omega)
   by_cases i0:i=0
   ·have un0:upR rN i=[]:=by rw [i0];rfl
    have ue0:upR rE i=[]:=by rw [i0];rfl
    rw [un0,List.nil_append]at un
    rw [ue0,List.nil_append]at ue
    have un':upR rN (i+1)≠[]:=by rw [un];exact List.cons_ne_nil _ _
    have ue':upR rE (i+1)≠[]:=by rw [ue];exact List.cons_ne_nil _ _
    have ln':(upR rN (i+1)).length=1:=by rw [un];rfl
    have le':(upR rE (i+1)).length=1:=by rw [ue];rfl
    simp (config:={ maxSteps:=2000000 }) (disch:=first|assumption|(push_cast<;>omega)|(with_unfolding_all exact id rfl)|omega) only [go_sem,zd2,un0,ue0,zcU,zb8,e2,tlen,wlen,zcd,zgy,rw1,rw2,zaY,List.cons_append,List.nil_append,zb0,zb7,zab,zB i ln,zB i le,List.take_left,List.take_length]
    (repeat refine sdC ?_)
    refine AXc.introN (fun h5=>?_) (fun h5=>?_)
    ·rw [zaV fun h=>h5 (h.1.1 i hi), ←er1 h5]
     simp (disch:=first|assumption|(push_cast<;>omega)|omega) only [go_sem,estV,mdlV,noM,zN]
    simp (config:={ maxSteps:=2000000 }) (disch:=first|assumption|(push_cast<;>omega)|(with_unfolding_all exact id rfl)|omega) only [go_sem,e4,e2,tlen,wlen,zcd,zgy,rw1,rw2,zaY,List.cons_append,List.nil_append,zb0,zb7,zab,zB i ln,zB i le,List.take_left,List.take_length]
    (repeat refine sdC ?_)
    simp only [go_sem]
    refine AXc.introN (fun h6=>?_) (fun h6=>?_)
    ·rw [zaV fun h=>h6 (h.1.2 i hi), ←er2 h6]
     simp (disch:=first|assumption|(push_cast<;>omega)|omega) only [go_sem,estV,mdlV,noM,zN]
    simp (disch:=first|assumption|(push_cast<;>omega)|omega) only [go_sem,zab,zB i le]
    (repeat refine sdC ?_)
    refine zi (i+1) ⟨by omega,fun j hj=>?_,fun j hj=>?_⟩ (by omega) ?_
    ·rcases Nat.lt_or_ge j i with hji|hji
     ·exact hok.1 j hji
     ·obtain rfl:j=i:=by omega
      simpa using h5
    ·rcases Nat.lt_or_ge j i with hji|hji
     ·exact hok.2 j hji
     ·obtain rfl:j=i:=by omega
      simpa using h6
    ·simp only [zd2,zbt 16 un',zbt 17 ue',zaX 16 un',zaX 17 ue',ln',le']
     refine Sub.of0 [(16,19),(17,24)] rfl rfl ?_ ?_
     ·simp (disch:=first|assumption|(push_cast<;>omega)|omega) only [go_sem]
      simp
     ·rw [un,ue]
      simp only [go_sem]
      exact⟨zu (zU _),zu (zU _),zan _ _ _ _ rfl rfl,zaR _ _ _ _ rfl rfl,zan _ _ _ _ rfl rfl,zaR _ _ _ _ rfl rfl⟩
   ·have nn:=zcc rN (i:=i) (by omega)
    have ne:=zcc rE (i:=i) (by omega)
    have un':=zcc rN (i:=i+1) (by omega)
    have ue':=zcc rE (i:=i+1) (by omega)
    have ln':(upR rN (i+1)).length=i+1:=zbT _ _
    have le':(upR rE (i+1)).length=i+1:=zbT _ _
    simp (config:={ maxSteps:=2000000 }) (disch:=first|assumption|(push_cast<;>omega)|(with_unfolding_all exact id rfl)|omega) only [go_sem,zd2,zbt 16 nn,zbt 17 ne,zaX 16 nn,zaX 17 ne,ln,le,e2,tlen,wlen,zcd,zgy,rw1,rw2,zaY,List.cons_append,List.nil_append,zb0,zb7,zab,zB i ln,zB i le,List.take_left,List.take_length]
    (repeat refine sdC ?_)
    refine AXc.introN (fun h5=>?_) (fun h5=>?_)
    ·rw [zaV fun h=>h5 (h.1.1 i hi), ←er1 h5]
     simp (disch:=first|assumption|(push_cast<;>omega)|omega) only [go_sem,estV,mdlV,noM,zN]
    simp (config:={ maxSteps:=2000000 }) (disch:=first|assumption|(push_cast<;>omega)|(with_unfolding_all exact id rfl)|omega) only [go_sem,e4,e2,tlen,wlen,zcd,zgy,rw1,rw2,zaY,List.cons_append,List.nil_append,zb0,zb7,zab,zB i ln,zB i le,List.take_left,List.take_length]
    (repeat refine sdC ?_)
    simp only [go_sem]
    refine AXc.introN (fun h6=>?_) (fun h6=>?_)
    ·rw [zaV fun h=>h6 (h.1.2 i hi), ←er2 h6]
     simp (disch:=first|assumption|(push_cast<;>omega)|omega) only [go_sem,estV,mdlV,noM,zN]
    simp (disch:=first|assumption|(push_cast<;>omega)|omega) only [go_sem,zab,zB i le]
    (repeat refine sdC ?_)
    refine zi (i+1) ⟨by omega,fun j hj=>?_,fun j hj=>?_⟩ (by omega) ?_
    ·rcases Nat.lt_or_ge j i with hji|hji
     ·exact hok.1 j hji
     ·obtain rfl:j=i:=by omega
      simpa using h5
    ·rcases Nat.lt_or_ge j i with hji|hji
     ·exact hok.2 j hji
     ·obtain rfl:j=i:=by omega
      simpa using h6
    ·simp only [zd2,zbt 16 un',zbt 17 ue',zaX 16 un',zaX 17 ue',ln',le']
     refine Sub.of0 [(16,19),(17,24)] rfl rfl ?_ ?_
     ·simp (disch:=first|assumption|(push_cast<;>omega)|omega) only [go_sem]
      simp
     ·rw [un,ue]
      simp only [go_sem]
      rw [←za1, ←za1]
      exact⟨zu fun x hx=>by rw [za1]at hx;exact zU _ x hx,zu fun x hx=>by rw [za1]at hx;exact zU _ x hx,zan _ _ _ _ rfl rfl,zaR _ _ _ _ rfl rfl,zan _ _ _ _ rfl rfl,zaR _ _ _ _ rfl rfl⟩
  obtain rfl:i=T.length:=by omega
  have un:=zcm rN T.length
  have e2:decide ((T.length:Int)<(T.length:Int)+1)=true:=decide_eq_true (by omega)
  have e4:decide ((T.length:Int)=(T.length:Int))=true:=decide_eq_true rfl
  by_cases i0:T.length=0
  ·have un0:upR rN T.length=[]:=by rw [i0];rfl
   have ue0:upR rE T.length=[]:=by rw [i0];rfl
   rw [un0,List.nil_append]at un
   simp (config:={ maxSteps:=2000000 }) (disch:=first|assumption|(push_cast<;>omega)|(with_unfolding_all exact id rfl)|omega) only [go_sem,zd2,un0,ue0,zcU,zb8,e2,tlen,wlen,zcd,zgy,rw1,rw2,zaY,List.cons_append,List.nil_append,zb0,zb7,zab,zB T.length ln,zB T.length le,List.take_left,List.take_length]
   (repeat refine sdC ?_)
   refine AXc.introN (fun h5=>?_) (fun h5=>?_)
   ·rw [zaV fun h=>h5 h.2, ←er1 h5]
    simp (disch:=first|assumption|(push_cast<;>omega)|omega) only [go_sem,estV,mdlV,noM,zN]
   have h5':(rN T.length).1=0:=by simpa using h5
   rw [zd8 hok h5',un,ue0]
   simp (disch:=first|assumption|(push_cast<;>omega)|omega) only [go_sem,e4,zab,zB T.length ln]
   (repeat refine sdC ?_)
   refine AXa.go mixed (hΓ) (zcQ) (by kernel_rfl) ?_
   simp (disch:=first|assumption|(push_cast<;>omega)|omega) only [go_sem,estV,mdlV,zN]
   exact⟨Frz.slp rfl rfl (by simp [strs]) (by rw [List.drop_zero,Nat.mul_one,za5,List.take_left]) (zV _),Frz.slp rfl rfl (by simp [strs]) (by rw [List.drop_zero,Nat.mul_one,za5,List.take_left]) (zV _),Frz.slp rfl rfl (by simp) rfl (zU _)⟩
  ·have nn:=zcc rN (i:=T.length) (by omega)
   have ne:=zcc rE (i:=T.length) (by omega)
   simp (config:={ maxSteps:=2000000 }) (disch:=first|assumption|(push_cast<;>omega)|(with_unfolding_all exact id rfl)|omega) only [go_sem,zd2,zbt 16 nn,zbt 17 ne,zaX 16 nn,zaX 17 ne,ln,le,e2,tlen,wlen,zcd,zgy,rw1,rw2,zaY,List.cons_append,List.nil_append,zb0,zb7,zab,zB T.length ln,zB T.length le,List.take_left,List.take_length]
   (repeat refine sdC ?_)
   refine AXc.introN (fun h5=>?_) (fun h5=>?_)
   ·rw [zaV fun h=>h5 h.2, ←er1 h5]
    simp (disch:=first|assumption|(push_cast<;>omega)|omega) only [go_sem,estV,mdlV,noM,zN]
   have h5':(rN T.length).1=0:=by simpa using h5
   rw [zd8 hok h5',un]
   simp (disch:=first|assumption|(push_cast<;>omega)|omega) only [go_sem,e4,zab,zB T.length ln]
   (repeat refine sdC ?_)
   refine AXa.go mixed (hΓ) (zcQ) (by kernel_rfl) ?_
   simp (disch:=first|assumption|(push_cast<;>omega)|omega) only [go_sem,estV,mdlV,zN]
   exact⟨Frz.slp rfl rfl (by simp [strs]) (by rw [List.drop_zero,Nat.mul_one,za5,List.take_left]) (zV _),Frz.slp rfl rfl (by simp [strs]) (by rw [List.drop_zero,Nat.mul_one,za5,List.take_left]) (zV _),Frz.slp rfl (by simp [ln]) (by simp [za7,ln]) (by rw [List.drop_zero,Nat.mul_one,List.take_of_length_le (by simp [za7,ln]),za1]) (zU _),Frz.slp rfl le (by simp [za7,le]) (by rw [List.drop_zero,Nat.mul_one,List.take_of_length_le (by simp [za7,le])]) (zU _)⟩
 by_cases t0:tagL A B=[]
 rotate_left
 ·have x3:slS 2 (zaq B)=.nilS:=by rw [w0];rfl
  have x4:∀ bs,blkS 2 (zaq B) bs=bs:=fun _=>by rw [w0];rfl
  simp only [zD 1 t0,zq 1 t0,x3,x4]
  have n1:=zpv 1 (tagL A B).length (tagL A B) [(1,.cells (strs (tagL A B))),(0,.cells [.nilS,.nilS,.nilS,.nilS])] 3 rfl rfl (by omega) rfl
  have hTz:(nmS (tagL A B)++zerS ((tagL A B).length - (nmS (tagL A B)).length)).length≤1000000:=by rw [List.length_append];simp only [zerS,List.length_replicate];omega
  generalize zerS ((tagL A B).length - (nmS (tagL A B)).length)=zt at n1 hTz
  have n1':Δe 34 [.sl 1 0 (tagL A B).length 1 none] ⟨[(1,.cells (strs (tagL A B))),(0,.cells [.nilS,.nilS,.nilS,.nilS])],3⟩=_:=n1
  have n2':Δe 34 [.nilS] ⟨[(3,.cells (strs (nmS (tagL A B)++zt))),(1,.cells (strs (tagL A B))),(0,.cells [.nilS,.nilS,.nilS,.nilS])],4⟩=_:=zlF [(3,.cells (strs (nmS (tagL A B)++zt))),(1,.cells (strs (tagL A B))),(0,.cells [.nilS,.nilS,.nilS,.nilS])] 4 rfl
  have hW0:nmS (zaq B)=[]:=by rw [w0];rfl
  have law:=law hv hp hc
  generalize rowN A (nmS (tagL A B)) k=rN at*
  generalize rowE B (nmS (tagL A B)) (nmS (zaq B)) k=rE at*
  generalize nmS (tagL A B)=T at*
  generalize nmS (zaq B)=W at*
  refine AXa.go mixed (hΓ) (zcQ) (by kernel_rfl) ?_
  simp (disch:=first|assumption|(push_cast<;>omega)|omega) only [go_sem,n1',n2']
  have hWl0:W.length=0:=by rw [hW0];rfl
  by_cases hbig:40<T.length∨500<W.length
  ·have hb:decide (40<(T.length:Int))=true:=by
    simp only [Bool.or_eq_true,decide_eq_true_eq];omega
   rw [hb,if_pos hbig]
   simp (disch:=first|assumption|(push_cast<;>omega)|omega) only [go_sem,estV,mdlV,noM,zN]
  have hb:decide (40<(T.length:Int))=false:=by simp only [Bool.or_eq_false_iff,decide_eq_false_iff_not];omega
  rw [hb,if_neg hbig]
  have d1':Δe 35 [.fs (cnts A) A.length] ⟨[(3,.cells (strs (T++zt))),(1,.cells (strs (tagL A B))),(0,.cells [.sl 3 0 T.length 1 none,.nilS,.nilS,.nilS])],4⟩=_:=zgr A A.length [(3,.cells (strs (T++zt))),(1,.cells (strs (tagL A B))),(0,.cells [.sl 3 0 T.length 1 none,.nilS,.nilS,.nilS])] 4 rfl hA smA rfl
  have d2':Δe 35 [.fs (cnts B) B.length] ⟨[(5,.mp (mpS 0 (tabS A A.length)) (tabS A A.length).length),(4,.mp (mpF 0 (tabN A A.length)) (tabN A A.length).length),(3,.cells (strs (T++zt))),(1,.cells (strs (tagL A B))),(0,.cells [.sl 3 0 T.length 1 none,.nilS,.nilS,.nilS])],7⟩=_:=zgr B B.length [(5,.mp (mpS 0 (tabS A A.length)) (tabS A A.length).length),(4,.mp (mpF 0 (tabN A A.length)) (tabN A A.length).length),(3,.cells (strs (T++zt))),(1,.cells (strs (tagL A B))),(0,.cells [.sl 3 0 T.length 1 none,.nilS,.nilS,.nilS])] 7 rfl hB smB rfl
  generalize tabN A A.length=N1 at*
  generalize tabS A A.length=S1 at*
  generalize tabN B B.length=N2 at*
  generalize tabS B B.length=S2 at*
  simp (disch:=first|assumption|(push_cast<;>omega)|omega) only [go_sem,d1',d2']
  refine AXk.intro (by kernel_rfl) ?_
  simp (config:={ maxSteps:=2000000 }) (disch:=first|assumption|(push_cast<;>omega)|(with_unfolding_all exact id rfl)|omega) only [go_sem,zb0,zb7,zcF,List.take_left,List.take_length]
  (repeat refine sdC ?_)
  refine AXs.loop mixed (hΓ) (zcQ) (fun i:Nat=>[(1,.str k),(4,.ptr 0 0),(12,.ptr 11 0),(13,.ptr 12 0),(14,.sl 15 0 (T.length+1) 1 none),(94,.sl 15 0 (T.length+1) 1 none),(95,.int .i64 (T.length+1)),(96,.int .i64 i)])
   (fun i=>zd2 (.sl 3 0 T.length 1 none) (.nilS) [(3,.cells (strs (T++zt)))] N1 N2 S1 S2 T (upR rN i) (upR rE i)) (fun i=>i≤T.length∧okR rN rE i) (fun i=>T.length - i) 0 (by kernel_rfl) ⟨Nat.zero_le _,fun j hj=>absurd hj (Nat.not_lt_zero j),fun j hj=>absurd hj (Nat.not_lt_zero j)⟩ (Sub.of0 [(5,4),(6,5),(8,7),(9,8),(11,10),(12,11),(15,14)] rfl rfl ?_ ?_) ?_
  ·simp only [go_sem]
   simp
  ·simp only [go_sem,zd2,zhi,zcU,zb8]
   exact⟨zan _ _ _ _ rfl rfl,zaR _ _ _ _ rfl rfl,zan _ _ _ _ rfl rfl,zaR _ _ _ _ rfl rfl⟩
  rintro i ⟨h1,hok⟩
  have ln:=zbT rN i
  have le:=zbT rE i
  obtain⟨ok1,ok2,rw1,rw2,er1,er2⟩:=law i h1
  have tlen:(T++[[]]).length=T.length+1:=by simp
  have wlen:(W++[[]]).length=W.length+1:=by simp
  rw [tlen]at rw1
  rw [hW0,List.nil_append]at ok2 rw2
  have l1:([[]]:List Str).length=1:=rfl
  rw [l1]at rw2
  unfold rV at rw1 rw2
  have cs1:Blk.cells [V.str []]=Blk.cells (strs [[]]):=rfl
  by_cases hi:i<T.length
  ·have un:=zcm rN i
   have ue:=zcm rE i
   have e2:decide ((i:Int)<(T.length:Int)+1)=true:=decide_eq_true (by omega)
   have e4:decide ((i:Int)=(T.length:Int))=false:=decide_eq_false (by omega)
   by_cases i0:i=0
   ·have un0:upR rN i=[]:=by rw [i0];rfl
    have ue0:upR rE i=[]:=by rw [i0];rfl
    rw [un0,List.nil_append]at un
    rw [ue0,List.nil_append]at ue
    have un':upR rN (i+1)≠[]:=by rw [un];exact List.cons_ne_nil _ _
    have ue':upR rE (i+1)≠[]:=by rw [ue];exact List.cons_ne_nil _ _
    have ln':(upR rN (i+1)).length=1:=by rw [un];rfl
    have le':(upR rE (i+1)).length=1:=by rw [ue];rfl
    simp (config:={ maxSteps:=2000000 }) (disch:=first|assumption|(push_cast<;>omega)|(with_unfolding_all exact id rfl)|omega) only [go_sem,zd2,un0,ue0,zcU,zb8,e2,tlen,l1,zcd,zgy,rw1,rw2,zaY,List.cons_append,List.nil_append,zb0,zb7,zcF,zab,zB i ln,zB i le,List.take_left,List.take_length]
    (repeat refine sdC ?_)
    refine AXc.introN (fun h5=>?_) (fun h5=>?_)
    ·rw [zaV fun h=>h5 (h.1.1 i hi), ←er1 h5]
     simp (disch:=first|assumption|(push_cast<;>omega)|omega) only [go_sem,estV,mdlV,noM,zN]
    simp (config:={ maxSteps:=2000000 }) (disch:=first|assumption|(push_cast<;>omega)|(with_unfolding_all exact id rfl)|omega) only [go_sem,e4,cs1,e2,tlen,l1,zcd,zgy,rw1,rw2,zaY,List.cons_append,List.nil_append,zb0,zb7,zcF,zab,zB i ln,zB i le,List.take_left,List.take_length]
    (repeat refine sdC ?_)
    try simp only [go_sem]
    refine AXc.introN (fun h6=>?_) (fun h6=>?_)
    ·rw [zaV fun h=>h6 (h.1.2 i hi), ←er2 h6]
     simp (disch:=first|assumption|(push_cast<;>omega)|omega) only [go_sem,estV,mdlV,noM,zN]
    simp (disch:=first|assumption|(push_cast<;>omega)|omega) only [go_sem,zab,zB i le]
    (repeat refine sdC ?_)
    refine zi (i+1) ⟨by omega,fun j hj=>?_,fun j hj=>?_⟩ (by omega) ?_
    ·rcases Nat.lt_or_ge j i with hji|hji
     ·exact hok.1 j hji
     ·obtain rfl:j=i:=by omega
      simpa using h5
    ·rcases Nat.lt_or_ge j i with hji|hji
     ·exact hok.2 j hji
     ·obtain rfl:j=i:=by omega
      simpa using h6
    ·simp only [zd2,zbt 16 un',zbt 17 ue',zaX 16 un',zaX 17 ue',ln',le']
     refine Sub.of0 [(16,19),(17,23)] rfl rfl ?_ ?_
     ·simp (disch:=first|assumption|(push_cast<;>omega)|omega) only [go_sem]
      simp
     ·rw [un,ue]
      simp only [go_sem]
      exact⟨zu (zU _),zu (zU _),zan _ _ _ _ rfl rfl,zaR _ _ _ _ rfl rfl,zan _ _ _ _ rfl rfl,zaR _ _ _ _ rfl rfl⟩
   ·have nn:=zcc rN (i:=i) (by omega)
    have ne:=zcc rE (i:=i) (by omega)
    have un':=zcc rN (i:=i+1) (by omega)
    have ue':=zcc rE (i:=i+1) (by omega)
    have ln':(upR rN (i+1)).length=i+1:=zbT _ _
    have le':(upR rE (i+1)).length=i+1:=zbT _ _
    simp (config:={ maxSteps:=2000000 }) (disch:=first|assumption|(push_cast<;>omega)|(with_unfolding_all exact id rfl)|omega) only [go_sem,zd2,zbt 16 nn,zbt 17 ne,zaX 16 nn,zaX 17 ne,ln,le,e2,tlen,l1,zcd,zgy,rw1,rw2,zaY,List.cons_append,List.nil_append,zb0,zb7,zcF,zab,zB i ln,zB i le,List.take_left,List.take_length]
    (repeat refine sdC ?_)
    refine AXc.introN (fun h5=>?_) (fun h5=>?_)
    ·rw [zaV fun h=>h5 (h.1.1 i hi), ←er1 h5]
     simp (disch:=first|assumption|(push_cast<;>omega)|omega) only [go_sem,estV,mdlV,noM,zN]
    simp (config:={ maxSteps:=2000000 }) (disch:=first|assumption|(push_cast<;>omega)|(with_unfolding_all exact id rfl)|omega) only [go_sem,e4,cs1,e2,tlen,l1,zcd,zgy,rw1,rw2,zaY,List.cons_append,List.nil_append,zb0,zb7,zcF,zab,zB i ln,zB i le,List.take_left,List.take_length]
    (repeat refine sdC ?_)
    try simp only [go_sem]
    refine AXc.introN (fun h6=>?_) (fun h6=>?_)
    ·rw [zaV fun h=>h6 (h.1.2 i hi), ←er2 h6]
     simp (disch:=first|assumption|(push_cast<;>omega)|omega) only [go_sem,estV,mdlV,noM,zN]
    simp (disch:=first|assumption|(push_cast<;>omega)|omega) only [go_sem,zab,zB i le]
    (repeat refine sdC ?_)
    refine zi (i+1) ⟨by omega,fun j hj=>?_,fun j hj=>?_⟩ (by omega) ?_
    ·rcases Nat.lt_or_ge j i with hji|hji
     ·exact hok.1 j hji
     ·obtain rfl:j=i:=by omega
      simpa using h5
    ·rcases Nat.lt_or_ge j i with hji|hji
     ·exact hok.2 j hji
     ·obtain rfl:j=i:=by omega
      simpa using h6
    ·simp only [zd2,zbt 16 un',zbt 17 ue',zaX 16 un',zaX 17 ue',ln',le']
     refine Sub.of0 [(16,19),(17,23)] rfl rfl ?_ ?_
     ·simp (disch:=first|assumption|(push_cast<;>omega)|omega) only [go_sem]
      simp
     ·rw [un,ue]
      simp only [go_sem]
      rw [←za1, ←za1]
      exact⟨zu fun x hx=>by rw [za1]at hx;exact zU _ x hx,zu fun x hx=>by rw [za1]at hx;exact zU _ x hx,zan _ _ _ _ rfl rfl,zaR _ _ _ _ rfl rfl,zan _ _ _ _ rfl rfl,zaR _ _ _ _ rfl rfl⟩
  obtain rfl:i=T.length:=by omega
  have un:=zcm rN T.length
  have e2:decide ((T.length:Int)<(T.length:Int)+1)=true:=decide_eq_true (by omega)
  have e4:decide ((T.length:Int)=(T.length:Int))=true:=decide_eq_true rfl
  by_cases i0:T.length=0
  ·have un0:upR rN T.length=[]:=by rw [i0];rfl
   have ue0:upR rE T.length=[]:=by rw [i0];rfl
   rw [un0,List.nil_append]at un
   simp (config:={ maxSteps:=2000000 }) (disch:=first|assumption|(push_cast<;>omega)|(with_unfolding_all exact id rfl)|omega) only [go_sem,zd2,un0,ue0,zcU,zb8,e2,tlen,l1,zcd,zgy,rw1,rw2,zaY,List.cons_append,List.nil_append,zb0,zb7,zcF,zab,zB T.length ln,zB T.length le,List.take_left,List.take_length]
   (repeat refine sdC ?_)
   refine AXc.introN (fun h5=>?_) (fun h5=>?_)
   ·rw [zaV fun h=>h5 h.2, ←er1 h5]
    simp (disch:=first|assumption|(push_cast<;>omega)|omega) only [go_sem,estV,mdlV,noM,zN]
   have h5':(rN T.length).1=0:=by simpa using h5
   rw [zd8 hok h5',un,ue0]
   simp (disch:=first|assumption|(push_cast<;>omega)|omega) only [go_sem,e4,zab,zB T.length ln]
   (repeat refine sdC ?_)
   refine AXa.go mixed (hΓ) (zcQ) (by kernel_rfl) ?_
   simp (disch:=first|assumption|(push_cast<;>omega)|omega) only [go_sem,estV,mdlV,zN]
   exact⟨Frz.slp rfl rfl (by simp [strs]) (by rw [List.drop_zero,Nat.mul_one,za5,List.take_left]) (zV _),⟨by rw [hW0];rfl,by rw [hW0];rfl⟩,Frz.slp rfl rfl (by simp) rfl (zU _)⟩
  ·have nn:=zcc rN (i:=T.length) (by omega)
   have ne:=zcc rE (i:=T.length) (by omega)
   simp (config:={ maxSteps:=2000000 }) (disch:=first|assumption|(push_cast<;>omega)|(with_unfolding_all exact id rfl)|omega) only [go_sem,zd2,zbt 16 nn,zbt 17 ne,zaX 16 nn,zaX 17 ne,ln,le,e2,tlen,l1,zcd,zgy,rw1,rw2,zaY,List.cons_append,List.nil_append,zb0,zb7,zcF,zab,zB T.length ln,zB T.length le,List.take_left,List.take_length]
   (repeat refine sdC ?_)
   refine AXc.introN (fun h5=>?_) (fun h5=>?_)
   ·rw [zaV fun h=>h5 h.2, ←er1 h5]
    simp (disch:=first|assumption|(push_cast<;>omega)|omega) only [go_sem,estV,mdlV,noM,zN]
   have h5':(rN T.length).1=0:=by simpa using h5
   rw [zd8 hok h5',un]
   simp (disch:=first|assumption|(push_cast<;>omega)|omega) only [go_sem,e4,zab,zB T.length ln]
   (repeat refine sdC ?_)
   refine AXa.go mixed (hΓ) (zcQ) (by kernel_rfl) ?_
   simp (disch:=first|assumption|(push_cast<;>omega)|omega) only [go_sem,estV,mdlV,zN]
   exact⟨Frz.slp rfl rfl (by simp [strs]) (by rw [List.drop_zero,Nat.mul_one,za5,List.take_left]) (zV _),⟨by rw [hW0];rfl,by rw [hW0];rfl⟩,Frz.slp rfl (by simp [ln]) (by simp [za7,ln]) (by rw [List.drop_zero,Nat.mul_one,List.take_of_length_le (by simp [za7,ln]),za1]) (zU _),Frz.slp rfl le (by simp [za7,le]) (by rw [List.drop_zero,Nat.mul_one,List.take_of_length_le (by simp [za7,le])]) (zU _)⟩
 ·have x3:slS 2 (zaq B)=.nilS:=by rw [w0];rfl
  have x4:∀ bs,blkS 2 (zaq B) bs=bs:=fun _=>by rw [w0];rfl
  have x1:slS 1 (tagL A B)=.nilS:=by rw [t0];rfl
  have x2:∀ bs,blkS 1 (tagL A B) bs=bs:=fun _=>by rw [t0];rfl
  simp only [x1,x2,x3,x4]
  have n1':Δe 34 [.nilS] ⟨[(0,.cells [.nilS,.nilS,.nilS,.nilS])],3⟩=_:=zlF [(0,.cells [.nilS,.nilS,.nilS,.nilS])] 3 rfl
  have n2':Δe 34 [.nilS] ⟨[(0,.cells [.nilS,.nilS,.nilS,.nilS])],3⟩=_:=zlF [(0,.cells [.nilS,.nilS,.nilS,.nilS])] 3 rfl
  have hW0:nmS (zaq B)=[]:=by rw [w0];rfl
  have hT0:nmS (tagL A B)=[]:=by rw [t0];rfl
  have law:=law hv hp hc
  generalize rowN A (nmS (tagL A B)) k=rN at*
  generalize rowE B (nmS (tagL A B)) (nmS (zaq B)) k=rE at*
  generalize nmS (tagL A B)=T at*
  generalize nmS (zaq B)=W at*
  refine AXa.go mixed (hΓ) (zcQ) (by kernel_rfl) ?_
  simp (disch:=first|assumption|(push_cast<;>omega)|omega) only [go_sem,n1',n2']
  rw [if_neg (by rw [hT0,hW0];simp)]
  have d1':Δe 35 [.fs (cnts A) A.length] ⟨[(0,.cells [.nilS,.nilS,.nilS,.nilS])],3⟩=_:=zgr A A.length [(0,.cells [.nilS,.nilS,.nilS,.nilS])] 3 rfl hA smA rfl
  have d2':Δe 35 [.fs (cnts B) B.length] ⟨[(4,.mp (mpS 0 (tabS A A.length)) (tabS A A.length).length),(3,.mp (mpF 0 (tabN A A.length)) (tabN A A.length).length),(0,.cells [.nilS,.nilS,.nilS,.nilS])],6⟩=_:=zgr B B.length [(4,.mp (mpS 0 (tabS A A.length)) (tabS A A.length).length),(3,.mp (mpF 0 (tabN A A.length)) (tabN A A.length).length),(0,.cells [.nilS,.nilS,.nilS,.nilS])] 6 rfl hB smB rfl
  generalize tabN A A.length=N1 at*
  generalize tabS A A.length=S1 at*
  generalize tabN B B.length=N2 at*
  generalize tabS B B.length=S2 at*
  simp (disch:=first|assumption|(push_cast<;>omega)|omega) only [go_sem,d1',d2']
  refine AXk.intro (by kernel_rfl) ?_
  simp (config:={ maxSteps:=2000000 }) (disch:=first|assumption|(push_cast<;>omega)|(with_unfolding_all exact id rfl)|omega) only [go_sem,zcF,List.take_left,List.take_length]
  (repeat refine sdC ?_)
  refine AXs.loop mixed (hΓ) (zcQ) (fun i:Nat=>[(1,.str k),(4,.ptr 0 0),(12,.ptr 11 0),(13,.ptr 12 0),(14,.sl 15 0 (T.length+1) 1 none),(94,.sl 15 0 (T.length+1) 1 none),(95,.int .i64 (T.length+1)),(96,.int .i64 i)])
   (fun i=>zd2 (.nilS) (.nilS) [] N1 N2 S1 S2 T (upR rN i) (upR rE i)) (fun i=>i≤T.length∧okR rN rE i) (fun i=>T.length - i) 0 (by kernel_rfl) ⟨Nat.zero_le _,fun j hj=>absurd hj (Nat.not_lt_zero j),fun j hj=>absurd hj (Nat.not_lt_zero j)⟩ (Sub.of0 [(5,3),(6,4),(8,6),(9,7),(11,9),(12,10),(15,12)] rfl rfl ?_ ?_) ?_
  ·simp only [go_sem]
   exact⟨by rw [hT0];rfl,by rw [hT0];rfl,by rw [hT0];rfl⟩
  ·simp only [go_sem,zd2,zhi,zcU,zb8]
   exact⟨by rw [hT0];rfl,zan _ _ _ _ rfl rfl,zaR _ _ _ _ rfl rfl,zan _ _ _ _ rfl rfl,zaR _ _ _ _ rfl rfl⟩
  rintro i ⟨h1,hok⟩
  have ln:=zbT rN i
  have le:=zbT rE i
  obtain⟨ok1,ok2,rw1,rw2,er1,er2⟩:=law i h1
  have tlen:(T++[[]]).length=T.length+1:=by simp
  have wlen:(W++[[]]).length=W.length+1:=by simp
  rw [tlen]at rw1
  rw [wlen]at rw2
  unfold rV at rw1 rw2
  obtain rfl:i=T.length:=by rw [hT0]at h1 ⊢;simpa using h1
  have i0:T.length=0:=by rw [hT0];rfl
  have e40:decide ((T.length:Int)=0)=true:=by rw [i0];rfl
  have un:=zcm rN T.length
  have e2:decide ((T.length:Int)<(T.length:Int)+1)=true:=decide_eq_true (by omega)
  have e4:decide ((T.length:Int)=(T.length:Int))=true:=decide_eq_true rfl
  have un0:upR rN T.length=[]:=by rw [i0];rfl
  have ue0:upR rE T.length=[]:=by rw [i0];rfl
  rw [un0,List.nil_append]at un
  simp (config:={ maxSteps:=2000000 }) (disch:=first|assumption|(push_cast<;>omega)|(with_unfolding_all exact id rfl)|omega) only [go_sem,zd2,un0,ue0,zcU,zb8,e2,tlen,wlen,zcd,zgy,rw1,rw2,zaY,List.cons_append,List.nil_append,zcF,zab,zB T.length ln,zB T.length le,List.take_left,List.take_length]
  (repeat refine sdC ?_)
  refine AXc.introN (fun h5=>?_) (fun h5=>?_)
  ·rw [zaV fun h=>h5 h.2, ←er1 h5]
   simp (disch:=first|assumption|(push_cast<;>omega)|omega) only [go_sem,estV,mdlV,noM,zN]
  have h5':(rN T.length).1=0:=by simpa using h5
  rw [zd8 hok h5',un,ue0]
  simp (disch:=first|assumption|(push_cast<;>omega)|omega) only [go_sem,e4,e40,zab,zB T.length ln]
  (repeat refine sdC ?_)
  refine AXa.go mixed (hΓ) (zcQ) (by kernel_rfl) ?_
  simp (disch:=first|assumption|(push_cast<;>omega)|omega) only [go_sem,estV,mdlV,zN]
  exact⟨⟨by rw [hT0];rfl,i0⟩,⟨by rw [hW0];rfl,by rw [hW0];rfl⟩,Frz.slp rfl rfl (by simp) rfl (zU _)⟩
end Go.Proofs
