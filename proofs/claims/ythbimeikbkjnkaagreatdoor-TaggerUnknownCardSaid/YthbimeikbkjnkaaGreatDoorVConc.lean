/- Strings put together: slices.Concat. -/
import Derived.Test.YthbimeikbkjnkaaGreatDoorAbWalk
import Derived.Test.YthbimeikbkjnkaaGreatDoorQRat6
set_option linter.all false
namespace Go.Proofs
open Go.Ab Go.Cnt
theorem Tryz.infoS:zfn Tryz.prog 9=some (1,16,true):=by kernel_rfl
attribute [go_sem] Tryz.infoS Int.sub_zero
theorem zvO:zi Tryz.prog 144:=fun a w=>by kernel_rfl
theorem zvR:zi Tryz.prog 105:=fun a w=>by kernel_rfl
theorem zj9:strs []=[]:=rfl
theorem strs_app(a b:List Str):strs (a++b)=strs a++strs b:=by simp [strs]
theorem zgb(l:List Str):(strs l).all V.one=true:=List.all_eq_true.2 fun x h=>by simp only [strs,List.mem_map]at h;obtain⟨s,_,rfl⟩:=h;rfl
def zgQ(n:Nat):List V:=List.replicate n (V.str [])
theorem zxs(n:Nat):zd2 (some (.string ⟨([]:List UInt8).toArray⟩)) n=zgQ n:=rfl
theorem zgP(n:Nat):∀ x∈zgQ n,Pure x:=by intro x hx;unfold zgQ at hx;rw [List.eq_of_mem_replicate hx];exact .str _
theorem zxw:NCall Tryz.prog 144 [.nilS,.int .i64 0] [] [] .nilS ⟨[],0⟩:=by
 refine NCall.walk (rs:=[.tmp 4]) [0,1,4,6,16] [] 0 mixed (zh) (zf) zvO Tryz.func144 rfl Tryz.ntmps144 rfl (by kernel_rfl) (by simp) (by simp) (by simp) ?_;simp only [go_sem];refine⟨[(4,.nilS)],Sub.of0 [] rfl rfl ?_ ?_,rfl⟩
 ·simp only [go_sem]
 ·simp only [go_sem]
theorem Sgrow_ok(n:Nat)(h0:0<n)(h1:n≤1000000):NCall Tryz.prog 144 [.nilS,.int .i64 n] [] [] (.sl 0 0 0 1 none) ⟨[(0,.cells (zgQ n))],1⟩:=by
 have h0':0<(n:Int):=by omega
 have h1':(n:Int)≤1000000:=by omega
 have h2':¬(n:Int)<0:=by omega
 refine NCall.walk (rs:=[.tmp 4]) [0,1,4,6,16] [] 0 mixed (zh) (zf) zvO Tryz.func144 rfl Tryz.ntmps144 rfl (by kernel_rfl) (by simp) (by simp) (by simp) ?_;simp (disch:=first|assumption|(push_cast<;>omega)|omega) only [go_sem,h0',h1',h2',decide_true,decide_false,zxs];refine⟨by omega,[(4,.sl 0 0 0 1 none)],Sub.of0 [] rfl rfl ?_ ?_,rfl⟩
 ·simp only [go_sem]
 ·simp only [go_sem];exact zt (zgP n)
theorem zfe(k:IntKind)(n:Int):∀ x∈[V.nilS,V.int k n],Pure x:=by
 intro x hx;simp only [List.mem_cons,List.not_mem_nil,or_false]at hx;rcases hx with rfl|rfl
 ·exact .nilS
 ·exact .int _ _
def zff(args:List V)(H:Hp)(r:AR):Prop:=
 ∃ n:Nat,args=[.nilS,.int .i64 n]∧n≤1000000∧(∀ b x,H.get b=some x→b<H.next)∧
  r=if n=0 then⟨True,.nilS,H,[],[]⟩else⟨True,.sl H.next 0 0 1 none,⟨(H.next,.cells (zgQ n))::H.bs,H.next+1⟩,[],[]⟩
theorem zxu:∀ args H r,zff args H r→HCall Tryz.prog 144 args H r:=by
 rintro args H r ⟨n,rfl,hn,hk,rfl⟩;by_cases h0:n=0
 ·subst h0;rw [if_pos rfl];exact HCall.none zxw .nilS [] _ H rfl .nil (zt (zfe _ _)) (fun i x hx=>by simp at hx) (fun i x hx=>by simp at hx) hk
 ·rw [if_neg h0];exact HCall.fresh (F:=[]) (Sgrow_ok n (by omega) hn) (zgP n) [] _ H rfl .nil (zt (zfe _ _)) (fun i x hx=>by simp at hx) (fun i x hx=>by simp at hx) hk
theorem zgR {args:List V}{H:Hp}{r r':AR}(h:zff args H r)(h':zff args H r'):r'=r:=by
 obtain⟨n,rfl,_,_,rfl⟩:=h;obtain⟨m,he,_,_,rfl⟩:=h';simp only [List.cons.injEq,V.int.injEq,and_true,true_and]at he;have:n=m:=by omega
 subst this;rfl
theorem zxv(n:Nat)(z:Int)(bs:List (Nat×Blk))(nx:Nat)(hz:z=n)(h0:0<n)(hn:n≤1000000)(hk:((keysB bs).all fun b=>decide (b<nx))=true):
 conD zff [.nilS,.int .i64 z] ⟨bs,nx⟩=some ⟨True,.sl nx 0 0 1 none,⟨(nx,.cells (zgQ n))::bs,nx+1⟩,[],[]⟩:=by
 subst hz
 have h:zff [.nilS,.int .i64 n] ⟨bs,nx⟩ ⟨True,.sl nx 0 0 1 none,⟨(nx,.cells (zgQ n))::bs,nx+1⟩,[],[]⟩:=⟨n,rfl,hn,zbq hk,by rw [if_neg (by omega)]⟩
 exact zax h fun r' h'=>zgR h h'
theorem zr6(bs:List (Nat×Blk))(nx:Nat)(hk:((keysB bs).all fun b=>decide (b<nx))=true):conD zff [.nilS,.int .i64 0] ⟨bs,nx⟩=some ⟨True,.nilS,⟨bs,nx⟩,[],[]⟩:=by have h:zff [.nilS,.int .i64 0] ⟨bs,nx⟩ ⟨True,.nilS,⟨bs,nx⟩,[],[]⟩:=⟨0,rfl,by omega,zbq hk,by rw [if_pos rfl]⟩;exact zax h fun r' h'=>zgR h h'
noncomputable def ΔSg:FuncId→List V→Hp→Option AR:=zcu 144 (conD zff) noΔ
theorem zbu:za0 Tryz.prog ΔSg:=zas (zaQ zxu) zf
set_option maxHeartbeats 4000000 in
theorem zr7(a c:List Str)(ha:a.length≤100000)(hc:c.length≤100000)(hne:0<a.length+c.length):NCall Tryz.prog 105 [.sl 0 0 2 1 (some 2)] [.cells [.fs (strs a) a.length,.fs (strs c) c.length]] []
 (.sl 1 0 (a++c).length 1 none) ⟨[(1,.cells (strs (a++c))),(0,.cells [.fs (strs a) a.length,.fs (strs c) c.length])],2⟩:=by
 refine NCall.walk (rs:=[.tmp 2]) [0,2,3,5,6,8,9,10,11,12,20,25,26,27,28] [] 1 mixed (zh) (zbu) zvR Tryz.func105 rfl Tryz.ntmps105 rfl (by kernel_rfl) (by simp) (by simp) (by simp) ?_
 simp only [go_sem]
 have k1:¬((a.length:Int)<0):=by omega
 have k2:¬((a.length:Int)+(c.length:Int)<0):=by omega
 refine AXs.rounds mixed zh zbu [(),()] (by kernel_rfl) ?_
 simp (disch:=first|assumption|(push_cast<;>omega)|omega) only [go_sem,k1,k2,decide_false,Int.zero_add]
 refine AXa.go mixed (zh) (zbu) (by kernel_rfl) ?_
 have hg:=zxv (a.length+c.length) ((a.length:Int)+(c.length:Int)) [(0,.cells [.fs (strs a) a.length,.fs (strs c) c.length])] 1 (by omega) hne (by omega) (by rfl)
 have hg':ΔSg 144 [.nilS,.int .i64 ((a.length:Int)+(c.length:Int))] ⟨[(0,.cells [.fs (strs a) a.length,.fs (strs c) c.length])],1⟩=_:=hg
 simp (disch:=first|assumption|(push_cast<;>omega)|omega) only [go_sem,hg']
 clear hg hg'
 rcases Nat.eq_zero_or_pos a.length with ha0|ha0
 ·obtain rfl:a=[]:=List.eq_nil_of_length_eq_zero ha0
  have c1:¬c.length=0:=by simp at hne;omega
  refine AXs.rounds mixed zh zbu [(),()] (by kernel_rfl) ?_
  simp (disch:=first|assumption|(push_cast<;>omega)|omega) only [go_sem,zj9,zgb,c1]
  refine⟨by omega,?_⟩
  refine AXa.go mixed (zh) (zbu) (by kernel_rfl) ?_
  simp only [go_sem]
  refine⟨[(2,.sl 1 0 c.length 1 none)],Sub.of [(1,2)] rfl ?_ ?_ (Nat.le_succ _) (fun b hb _=>?_),?_⟩
  ·simp only [go_sem]
  ·simp only [go_sem]
   exact fun x hx=>(nomatch hx)
  ·obtain rfl:b=0:=Nat.lt_one_iff.1 hb
   rfl
  ·rfl
 ·have a1:¬a.length=0:=by omega
  rcases Nat.eq_zero_or_pos c.length with hc0|hc0
  ·obtain rfl:c=[]:=List.eq_nil_of_length_eq_zero hc0
   refine AXs.rounds mixed zh zbu [(),()] (by kernel_rfl) ?_
   simp (disch:=first|assumption|(push_cast<;>omega)|omega) only [go_sem,zj9,zgb,a1]
   refine⟨by omega,?_⟩
   refine AXa.go mixed (zh) (zbu) (by kernel_rfl) ?_
   simp only [go_sem]
   refine⟨[(2,.sl 1 0 a.length 1 none)],Sub.of [(1,2)] rfl ?_ ?_ (Nat.le_succ _) (fun b hb _=>?_),?_⟩
   ·simp only [go_sem]
   ·simp only [go_sem]
    exact fun x hx=>(nomatch hx)
   ·obtain rfl:b=0:=Nat.lt_one_iff.1 hb
    rfl
   ·simp [zdd]
  ·have c1:¬c.length=0:=by omega
   refine AXs.rounds mixed zh zbu [(),()] (by kernel_rfl) ?_
   simp (disch:=first|assumption|(push_cast<;>omega)|omega) only [go_sem,zgb,a1,c1]
   refine⟨by omega,by omega,?_⟩
   refine AXa.go mixed (zh) (zbu) (by kernel_rfl) ?_
   simp only [go_sem]
   refine⟨[(2,.sl 1 0 (a++c).length 1 none)],Sub.of [(1,3)] rfl ?_ ?_ (Nat.le_succ _) (fun b hb _=>?_),?_⟩
   ·simp only [go_sem]
    simp
   ·simp only [go_sem]
    try rw [strs_app,List.take_of_length_le (by simp [strs])]
    try exact zt fun x hx=>(List.mem_append.1 hx).elim (zT a x) (zT c x)
   ·obtain rfl:b=0:=Nat.lt_one_iff.1 hb
    rfl
   ·rfl
theorem znP:NCall Tryz.prog 105 [.sl 0 0 2 1 (some 2)] [.cells [.fs [] 0,.fs [] 0]] [] .nilS ⟨[(0,.cells [.fs [] 0,.fs [] 0])],1⟩:=by
 refine NCall.walk (rs:=[.tmp 2]) [0,2,3,5,6,8,9,10,11,12,20,25,26,27,28] [] 1 mixed (zh) (zbu) zvR Tryz.func105 rfl Tryz.ntmps105 rfl (by kernel_rfl) (by simp) (by simp) (by simp) ?_;simp only [go_sem];refine AXs.rounds mixed zh zbu [(),()] (by kernel_rfl) ?_;simp (disch:=first|assumption|(push_cast<;>omega)|omega) only [go_sem,decide_false,Int.zero_add];refine AXa.go mixed (zh) (zbu) (by kernel_rfl) ?_;have hg:ΔSg 144 [.nilS,.int .i64 0] ⟨[(0,.cells [.fs [] 0,.fs [] 0])],1⟩=_:=zr6 [(0,.cells [.fs [] 0,.fs [] 0])] 1 (by rfl);simp (disch:=first|assumption|(push_cast<;>omega)|omega) only [go_sem,hg];refine AXs.rounds mixed zh zbu [(),()] (by kernel_rfl) ?_;simp (disch:=first|assumption|(push_cast<;>omega)|omega) only [go_sem];refine AXa.go mixed (zh) (zbu) (by kernel_rfl) ?_;simp only [go_sem];refine⟨[(2,.nilS)],Sub.of [] rfl ?_ ?_ (Nat.le_refl _) (fun b hb _=>?_),rfl⟩
 ·simp only [go_sem]
 ·simp only [go_sem];exact fun x hx=>(nomatch hx)
 ·obtain rfl:b=0:=Nat.lt_one_iff.1 hb;rfl
def zjX(args:List V)(H:Hp)(r:AR):Prop:=
 ∃(b:Nat) (a c:List Str),args=[.sl b 0 2 1 (some 2)]∧H.get b=some (.cells [.fs (strs a) a.length,.fs (strs c) c.length])∧a.length≤100000∧c.length≤100000∧(∀ b x,H.get b=some x→b<H.next)∧
  r=if a.length+c.length=0 then⟨True,.nilS,H,[b],[]⟩else⟨True,.sl H.next 0 (a++c).length 1 none,⟨(H.next,.cells (strs (a++c)))::H.bs,H.next+1⟩,[b],[]⟩
theorem znN:∀ args H r,zjX args H r→HCall Tryz.prog 105 args H r:=by
 rintro args H r ⟨b,a,c,rfl,hb,ha,hc,hk,rfl⟩;have hF':∀(i:Nat) (x:Blk),([Blk.cells [.fs (strs a) a.length,.fs (strs c) c.length]]:List Blk)[i]? =some x→∀ π N,RnB π N x x:=by
  intro i x hx π N;match i with
  |0=>
   cases hx;exact .cells (zt fun x hx=>by
    simp only [List.mem_cons,List.not_mem_nil,or_false]at hx;rcases hx with rfl|rfl
    ·exact .fs (zT a)
    ·exact .fs (zT c))
  |i+1=>simp at hx
 have hF:∀(i:Nat) (x:Blk),([Blk.cells [.fs (strs a) a.length,.fs (strs c) c.length]]:List Blk)[i]? =some x→∃ b',[b][i]? =some b'∧H.get b'=some x∧RnB (fun i=>[b].getD i 0) (· <1) x x:=by
  intro i x hx;match i with
  |0=>exact⟨b,rfl,by cases hx;exact hb,hF' 0 x hx _ _⟩
  |i+1=>simp at hx
 have hargs:LRel (Rn (fun i=>[b].getD i 0) (· <1)) [V.sl 0 0 2 1 (some 2)] [.sl b 0 2 1 (some 2)]:=by
  refine⟨rfl,fun i x y hx hy=>?_⟩;match i with
  |0=>cases hx;cases hy;exact .sl (π:=fun i=>[b].getD i 0) (b:=0) (Nat.lt_one_iff.2 rfl) (.inr rfl)
  |i+1=>simp at hx
 by_cases h0:a.length+c.length=0
 ·rw [if_pos h0];obtain rfl:a=[]:=List.eq_nil_of_length_eq_zero (by omega);obtain rfl:c=[]:=List.eq_nil_of_length_eq_zero (by omega);exact HCall.none znP .nilS [b] _ H rfl (by simp) hargs hF hF' hk
 ·rw [if_neg h0];have pc:∀ x∈strs (a++c),Pure x:=zT _;exact HCall.fresh (F:=[.cells [.fs (strs a) a.length,.fs (strs c) c.length]]) (zr7 a c ha hc (by omega)) pc [b] _ H rfl (by simp) hargs hF hF' hk
theorem znO(b:Nat)(a c:List Str)(bs:List (Nat×Blk))(nx:Nat)(hb:zaE bs b=some (.cells [.fs (strs a) a.length,.fs (strs c) c.length]))(ha:a.length≤100000)(hc:c.length≤100000)(hk:((keysB bs).all fun b=>decide (b<nx))=true):
 conD zjX [.sl b 0 2 1 (some 2)] ⟨bs,nx⟩=some (if a.length+c.length=0 then⟨True,.nilS,⟨bs,nx⟩,[b],[]⟩else⟨True,.sl nx 0 (a++c).length 1 none,⟨(nx,.cells (strs (a++c)))::bs,nx+1⟩,[b],[]⟩):=by
 have hg:(⟨bs,nx⟩:Hp).get b=some (.cells [.fs (strs a) a.length,.fs (strs c) c.length]):=(zcl bs b).trans hb
 refine zax ⟨b,a,c,rfl,hg,ha,hc,zbq hk,rfl⟩ ?_
 rintro r' ⟨b',a',c',he,hb',_,_,_,rfl⟩
 simp only [List.cons.injEq,V.sl.injEq,and_true]at he
 subst he
 rw [hg]at hb'
 simp only [Option.some.injEq,Blk.cells.injEq,List.cons.injEq,V.fs.injEq,and_true]at hb'
 obtain⟨⟨h1,_⟩,h2,_⟩:=hb'
 rw [zaB h1,zaB h2]
end Go.Proofs

namespace Go.Proofs
open Go.Ab Go.Cnt Go.Pl
structure Fit(m:Mdl):Prop where
 tl:m.tags.length≤100000
 wl:m.words.length≤100000
 nl:m.next.length≤100000
 el:m.emit.length≤100000
 ts:∀ s∈m.tags,s.length≤1000000000000000
 ws:∀ s∈m.words,s.length≤1000000000000000
 nr:∀ r∈m.next,r.length≤1000000
 er:∀ r∈m.emit,r.length≤1000000
 ns:∀ r∈m.next,∀ s∈r,s.length≤1000000
 es:∀ r∈m.emit,∀ s∈r,s.length≤1000000
noncomputable def vmB(m:Mdl):Bool:=decide (m.tags.length≤40)&&(decide (m.words.length≤500)&&(incS m.tags&&(incS m.words&&((m.tags++m.words).all nameB&&(matB m.next (m.tags.length+1) (m.tags.length+1)&&matB m.emit m.tags.length (m.words.length+1))))))
noncomputable def cRows:List V→Option PR:=zG (fun p:List (List Str)×Nat×Nat=>[.fs (zJ p.1) p.1.length,.int .i64 p.2.1,.int .i64 p.2.2]) (fun p=>p.1.length≤1000000∧(∀ r∈p.1,r.length≤1000000)∧∀ r∈p.1,∀ s∈r,s.length≤1000000) fun p=>.ret (.bool (matB p.1 p.2.1 p.2.2))
theorem cRows_ok:∀ args r,cRows args=some r→PCall Tryz.prog 107 args r:=zk fun p h=>rows_ok p.1 p.2.1 p.2.2 h.1 h.2.1 h.2.2
theorem zoS(m:List (List Str))(n w:Nat)(a b:Int)(ha:a=n)(hb:b=w)(h1:m.length≤1000000)(h2:∀ r∈m,r.length≤1000000)(h3:∀ r∈m,∀ s∈r,s.length≤1000000):cRows [.fs (zJ m) m.length,.int .i64 a,.int .i64 b]=some (.ret (.bool (matB m n w))):=by
 subst ha hb;exact zn (pat:=fun p:List (List Str)×Nat×Nat=>[V.fs (zJ p.1) p.1.length,.int .i64 p.2.1,.int .i64 p.2.2]) (fun x y h=>by
  obtain⟨x1,x2,x3⟩:=x;obtain⟨y1,y2,y3⟩:=y;simp only [List.cons.injEq,V.fs.injEq,V.int.injEq,and_true,true_and]at h;obtain⟨⟨e1,_⟩,e2,e3⟩:=h;have e2':x2=y2:=by omega
  have e3':x3=y3:=by omega
  rw [zcA e1,e2',e3']) (m,n,w) ⟨h1,h2,h3⟩
noncomputable def ΔV:FuncId→List V→Hp→Option AR:=zcu 105 (conD zjX) noΔ
theorem zjY:za0 Tryz.prog ΔV:=zas (zaQ znN) zf
set_option maxHeartbeats 8000000 in
set_option maxRecDepth 100000 in
theorem zic(m:Mdl)(h:Fit m):PCall Tryz.prog 64 [mdlV m] (.ret (.bool (vmB m))):=by
 have hΓ:=zg zwv (zg cName_ok (zg cRows_ok zh));obtain⟨tl,wl,nl,el,ts,ws,nr,er,ns,es⟩:=h;obtain⟨T,W,N,E⟩:=m;dsimp only at tl wl nl el ts ws nr er ns es;have m1:=zoS N (T.length+1) (T.length+1) ((T.length:Int)+1) ((T.length:Int)+1) (by omega) (by omega) (by omega) nr ns;have m2:=zoS E T.length (W.length+1) (T.length:Int) ((W.length:Int)+1) rfl (by omega) (by omega) er es;refine PCall.walk (rs:=[.tmp 2]) [0,1,2,3,4,6,30,36,37,38,39,44] [25] mixed (hΓ) (zjY) call64 Tryz.func64 rfl Tryz.ntmps64 rfl (by kernel_rfl) (by simp) (by simp [push_cast,zel]) ?_;have hb:(decide (40<(T.length:Int))||decide (500<(W.length:Int))|| !incS T|| !incS W)= !(decide (T.length≤40)&&decide (W.length≤500)&&incS T&&incS W):=by
  have e1:decide (40<(T.length:Int))= !decide (T.length≤40):=by
   by_cases h:T.length≤40
   ·simp [h];omega
   ·simp [h];omega
  have e2:decide (500<(W.length:Int))= !decide (W.length≤500):=by
   by_cases h:W.length≤500
   ·simp [h];omega
   ·simp [h];omega
  rw [e1,e2];cases decide (T.length≤40)<;>cases decide (W.length≤500)<;>cases incS T<;>cases incS W<;>rfl
 have hv:vmB ⟨T,W,N,E⟩=((decide (T.length≤40)&&decide (W.length≤500)&&incS T&&incS W)&&((T++W).all nameB&&(matB N (T.length+1) (T.length+1)&&matB E T.length (W.length+1)))):=by simp only [vmB,Bool.and_assoc]
 rw [hv];simp (disch:=first|assumption|(push_cast<;>omega)|omega) only [go_sem,mdlV];rw [hb];cases h0:(decide (T.length≤40)&&decide (W.length≤500)&&incS T&&incS W)with
 |false=>simp (disch:=first|assumption|(push_cast<;>omega)|omega) only [go_sem]
 |true=>
  have hC:=znO 0 T W [(0,.cells [.fs (strs T) T.length,.fs (strs W) W.length])] 1 rfl tl wl rfl;by_cases he:T.length+W.length=0
  ·rw [if_pos he]at hC;have hC':ΔV 105 [.sl 0 0 2 1 (some 2)] ⟨[(0,.cells [.fs (strs T) T.length,.fs (strs W) W.length])],1⟩=_:=hC;obtain rfl:T=[]:=List.eq_nil_of_length_eq_zero (by omega);obtain rfl:W=[]:=List.eq_nil_of_length_eq_zero (by omega);have hC2:ΔV 105 [.sl 0 0 2 1 (some 2)] ⟨[(0,.cells [.fs [] 0,.fs [] 0])],1⟩=some ⟨True,.nilS,⟨[(0,.cells [.fs [] 0,.fs [] 0])],1⟩,[0],[]⟩:=hC';have k1:cRows [.fs (zJ N) N.length,.int .i64 1,.int .i64 1]=some (.ret (.bool (matB N 1 1))):=m1;have k2:cRows [.fs (zJ E) E.length,.int .i64 0,.int .i64 1]=some (.ret (.bool (matB E 0 1))):=m2;simp (disch:=first|assumption|(push_cast<;>omega)|omega) only [go_sem,hC2];refine AXs.rounds mixed hΓ zjY [] (by kernel_rfl) ?_;simp (disch:=first|assumption|(push_cast<;>omega)|omega) only [go_sem];refine AXa.go mixed (hΓ) (zjY) (by kernel_rfl) ?_;simp (disch:=first|assumption|(push_cast<;>omega)|omega) only [go_sem,k1,k2]
  rw [if_neg he]at hC;have hC':ΔV 105 [.sl 0 0 2 1 (some 2)] ⟨[(0,.cells [.fs (strs T) T.length,.fs (strs W) W.length])],1⟩=_:=hC;have hlen:(T++W).length=T.length+W.length:=List.length_append;simp (disch:=first|assumption|(push_cast<;>omega)|omega) only [go_sem,hC',hlen];have hpm:∀ x∈[V.fs (strs T) T.length,.fs (strs W) W.length,.fs (zJ N) N.length,.fs (zJ E) E.length],Pure x:=fun x h=>by
   simp only [List.mem_cons,List.not_mem_nil,or_false]at h;rcases h with rfl|rfl|rfl|rfl
   ·exact .fs (zT _)
   ·exact .fs (zT _)
   ·exact .fs (zaG _)
   ·exact .fs (zaG _)
  generalize hA:T++W=A at*;refine AXs.loop mixed (hΓ) (zjY) (fun i:Nat=>[(1,.fp [.fs (strs T) T.length,.fs (strs W) W.length,.fs (zJ N) N.length,.fs (zJ E) E.length]),(3,.int .i64 T.length),(4,.int .i64 W.length),(36,.sl 1 0 (T.length+W.length) 1 none),(37,.int .i64 (T.length+W.length:Nat)),(38,.int .i64 i)]) (fun _=>⟨[(1,.cells (strs A))],2⟩) (fun i=>i≤A.length∧∀ j,j<i→nameB (A.getD j [])=true) (fun i=>A.length - i) 0 (by kernel_rfl) ⟨Nat.zero_le _,fun j hj=>by omega⟩ (Sub.of0 [] rfl rfl ?_ ?_) ?_
  ·simp only [go_sem];exact hpm
  ·simp only [go_sem]
  rintro i ⟨h1,h2⟩;simp (disch:=first|assumption|(push_cast<;>omega)|omega) only [go_sem];refine AXc.introP (fun h3=>?_) (fun h3=>?_)
  ·have hi:i<A.length:=by omega
   simp (disch:=first|assumption|(push_cast<;>omega)|omega) only [go_sem]
   (repeat refine sdC ?_);cases hn:nameB (A.getD i [])with
   |false=>
    simp (disch:=first|assumption|(push_cast<;>omega)|omega) only [go_sem];rw [zpb hi hn];rfl
   |true=>
    simp (disch:=first|assumption|(push_cast<;>omega)|omega) only [go_sem];refine zo (i+1) ⟨by omega,fun j hj=>?_⟩ (by omega) (Sub.of0 [] rfl rfl ?_ ?_)
    ·by_cases hji:j<i
     ·exact h2 j hji
     ·obtain rfl:j=i:=by omega
      exact hn
    ·simp only [go_sem];refine⟨hpm,?_⟩;simp
    ·simp only [go_sem]
  ·have hi:i=A.length:=by omega
   rw [zpa fun j hj=>h2 j (by omega)];simp (disch:=first|assumption|(push_cast<;>omega)|omega) only [go_sem];refine AXa.go mixed (hΓ) (zjY) (by kernel_rfl) ?_;simp (disch:=first|assumption|(push_cast<;>omega)|omega) only [go_sem,m1,m2]
end Go.Proofs
