/- Strings put together: slices.Concat. -/
import Derived.Test.YtfilkkmcagndlaaGreatDoorAbIn
import Derived.Test.YtfilkkmcagndlaaGreatDoorQRat2
import Derived.Test.YtfilkkmcagndlaaGreatDoorPlRat3
set_option linter.all false
namespace Go.Proofs
open Go.Ab Go.Cnt
theorem Tryz.infoS:zgV Tryz.prog 9=some (1,16,true):=by kernel_rfl
attribute [go_sem] Tryz.infoS Int.sub_zero
theorem call52:zi Tryz.prog 52:=fun a w=>by kernel_rfl
theorem call28:zi Tryz.prog 28:=fun a w=>by kernel_rfl
theorem zmj:strs []=[]:=rfl
theorem strs_app(a b:List Str):strs (a++b)=strs a++strs b:=by simp [strs]
theorem zhY(l:List Str):(strs l).all V.one=true:=List.all_eq_true.2 fun x h=>by simp only [strs,List.mem_map]at h;obtain⟨s,_,rfl⟩:=h;rfl
def ziJ(n:Nat):List V:=List.replicate n (V.str [])
theorem zAN(n:Nat):zfl (some (.string ⟨([]:List UInt8).toArray⟩)) n=ziJ n:=rfl
theorem ziI(n:Nat):∀ x∈ziJ n,Pure x:=by intro x hx;unfold ziJ at hx;rw [List.eq_of_mem_replicate hx];exact .str _
theorem zAQ:NCall Tryz.prog 52 [.nilS,.int .i64 0] [] [] .nilS ⟨[],0⟩:=by
 refine NCall.walk (rs:=[.tmp 4]) [0,1,4,6,16] [] 0 mixed (zh) (zg) call52 Tryz.func52 rfl Tryz.ntmps52 rfl (by kernel_rfl) (by simp) (by simp) (by simp) ?_;simp only [go_sem];refine⟨[(4,.nilS)],Sub.of0 [] rfl rfl ?_ ?_,rfl⟩
 ·simp only [go_sem]
 ·simp only [go_sem]
theorem Sgrow_ok(n:Nat)(h0:0<n)(h1:n≤1000000):NCall Tryz.prog 52 [.nilS,.int .i64 n] [] [] (.sl 0 0 0 1 none) ⟨[(0,.cells (ziJ n))],1⟩:=by
 have h0':0<(n:Int):=by omega
 have h1':(n:Int)≤1000000:=by omega
 have h2':¬(n:Int)<0:=by omega
 refine NCall.walk (rs:=[.tmp 4]) [0,1,4,6,16] [] 0 mixed (zh) (zg) call52 Tryz.func52 rfl Tryz.ntmps52 rfl (by kernel_rfl) (by simp) (by simp) (by simp) ?_;simp (disch:=first|assumption|(push_cast<;>omega)|omega) only [go_sem,h0',h1',h2',decide_true,decide_false,zAN];refine⟨by omega,[(4,.sl 0 0 0 1 none)],Sub.of0 [] rfl rfl ?_ ?_,rfl⟩
 ·simp only [go_sem]
 ·simp only [go_sem];exact zu (ziI n)
theorem zgM(k:IntKind)(n:Int):∀ x∈[V.nilS,V.int k n],Pure x:=by
 intro x hx;simp only [List.mem_cons,List.not_mem_nil,or_false]at hx;rcases hx with rfl|rfl
 ·exact .nilS
 ·exact .int _ _
def zgN(args:List V)(H:Hp)(r:AR):Prop:=
 ∃ n:Nat,args=[.nilS,.int .i64 n]∧n≤1000000∧(∀ b x,H.get b=some x→b<H.next)∧
  r=if n=0 then⟨True,.nilS,H,[],[]⟩else⟨True,.sl H.next 0 0 1 none,⟨(H.next,.cells (ziJ n))::H.bs,H.next+1⟩,[],[]⟩
theorem zAO:∀ args H r,zgN args H r→HCall Tryz.prog 52 args H r:=by
 rintro args H r ⟨n,rfl,hn,hk,rfl⟩;by_cases h0:n=0
 ·subst h0;rw [if_pos rfl];exact HCall.none zAQ .nilS [] _ H rfl .nil (zu (zgM _ _)) (fun i x hx=>by simp at hx) (fun i x hx=>by simp at hx) hk
 ·rw [if_neg h0];exact HCall.fresh (F:=[]) (Sgrow_ok n (by omega) hn) (ziI n) [] _ H rfl .nil (zu (zgM _ _)) (fun i x hx=>by simp at hx) (fun i x hx=>by simp at hx) hk
theorem ziK {args:List V}{H:Hp}{r r':AR}(h:zgN args H r)(h':zgN args H r'):r'=r:=by
 obtain⟨n,rfl,_,_,rfl⟩:=h;obtain⟨m,he,_,_,rfl⟩:=h';simp only [List.cons.injEq,V.int.injEq,and_true,true_and]at he;have:n=m:=by omega
 subst this;rfl
theorem zAP(n:Nat)(z:Int)(bs:List (Nat×Blk))(nx:Nat)(hz:z=n)(h0:0<n)(hn:n≤1000000)(hk:((keysB bs).all fun b=>decide (b<nx))=true):
 conD zgN [.nilS,.int .i64 z] ⟨bs,nx⟩=some ⟨True,.sl nx 0 0 1 none,⟨(nx,.cells (ziJ n))::bs,nx+1⟩,[],[]⟩:=by
 subst hz
 have h:zgN [.nilS,.int .i64 n] ⟨bs,nx⟩ ⟨True,.sl nx 0 0 1 none,⟨(nx,.cells (ziJ n))::bs,nx+1⟩,[],[]⟩:=⟨n,rfl,hn,zbs hk,by rw [if_neg (by omega)]⟩
 exact zaN h fun r' h'=>ziK h h'
theorem zve(bs:List (Nat×Blk))(nx:Nat)(hk:((keysB bs).all fun b=>decide (b<nx))=true):conD zgN [.nilS,.int .i64 0] ⟨bs,nx⟩=some ⟨True,.nilS,⟨bs,nx⟩,[],[]⟩:=by have h:zgN [.nilS,.int .i64 0] ⟨bs,nx⟩ ⟨True,.nilS,⟨bs,nx⟩,[],[]⟩:=⟨0,rfl,by omega,zbs hk,by rw [if_pos rfl]⟩;exact zaN h fun r' h'=>ziK h h'
noncomputable def ΔSg:FuncId→List V→Hp→Option AR:=zct 52 (conD zgN) noΔ
theorem zbR:zbo Tryz.prog ΔSg:=zaw (zaQ zAO) zg
set_option maxHeartbeats 4000000 in
theorem zvf(a c:List Str)(ha:a.length≤100000)(hc:c.length≤100000)(hne:0<a.length+c.length):NCall Tryz.prog 28 [.sl 0 0 2 1 (some 2)] [.cells [.fs (strs a) a.length,.fs (strs c) c.length]] []
 (.sl 1 0 (a++c).length 1 none) ⟨[(1,.cells (strs (a++c))),(0,.cells [.fs (strs a) a.length,.fs (strs c) c.length])],2⟩:=by
 refine NCall.walk (rs:=[.tmp 2]) [0,2,3,5,6,8,9,10,11,12,20,25,26,27,28] [] 1 mixed (zh) (zbR) call28 Tryz.func28 rfl Tryz.ntmps28 rfl (by kernel_rfl) (by simp) (by simp) (by simp) ?_
 simp only [go_sem]
 have k1:¬((a.length:Int)<0):=by omega
 have k2:¬((a.length:Int)+(c.length:Int)<0):=by omega
 refine AXs.rounds mixed zh zbR [(),()] (by kernel_rfl) ?_
 simp (disch:=first|assumption|(push_cast<;>omega)|omega) only [go_sem,k1,k2,decide_false,Int.zero_add]
 refine AXa.go mixed (zh) (zbR) (by kernel_rfl) ?_
 have hg:=zAP (a.length+c.length) ((a.length:Int)+(c.length:Int)) [(0,.cells [.fs (strs a) a.length,.fs (strs c) c.length])] 1 (by omega) hne (by omega) (by rfl)
 have hg':ΔSg 52 [.nilS,.int .i64 ((a.length:Int)+(c.length:Int))] ⟨[(0,.cells [.fs (strs a) a.length,.fs (strs c) c.length])],1⟩=_:=hg
 simp (disch:=first|assumption|(push_cast<;>omega)|omega) only [go_sem,hg']
 clear hg hg'
 rcases Nat.eq_zero_or_pos a.length with ha0|ha0
 ·obtain rfl:a=[]:=List.eq_nil_of_length_eq_zero ha0
  have c1:¬c.length=0:=by simp at hne;omega
  refine AXs.rounds mixed zh zbR [(),()] (by kernel_rfl) ?_
  simp (disch:=first|assumption|(push_cast<;>omega)|omega) only [go_sem,zmj,zhY,c1]
  refine⟨by omega,?_⟩
  refine AXa.go mixed (zh) (zbR) (by kernel_rfl) ?_
  simp only [go_sem]
  refine⟨[(2,.sl 1 0 c.length 1 none)],Sub.of [(1,2)] rfl ?_ ?_ (Nat.le_succ _) (fun b hb _=>?_),?_⟩
  ·simp only [go_sem]
  ·simp only [go_sem]
   exact fun x hx=>(nomatch hx)
  ·obtain rfl:b=0:=Nat.lt_one_iff.1 hb
   rfl
  ·rfl
 ·have a1:¬a.length=0:=by omega
  rcases Nat.eq_zero_or_pos c.length with hc0|hc0
  ·obtain rfl:c=[]:=List.eq_nil_of_length_eq_zero hc0
   refine AXs.rounds mixed zh zbR [(),()] (by kernel_rfl) ?_
   simp (disch:=first|assumption|(push_cast<;>omega)|omega) only [go_sem,zmj,zhY,a1]
   refine⟨by omega,?_⟩
   refine AXa.go mixed (zh) (zbR) (by kernel_rfl) ?_
   simp only [go_sem]
   refine⟨[(2,.sl 1 0 a.length 1 none)],Sub.of [(1,2)] rfl ?_ ?_ (Nat.le_succ _) (fun b hb _=>?_),?_⟩
   ·simp only [go_sem]
   ·simp only [go_sem]
    exact fun x hx=>(nomatch hx)
   ·obtain rfl:b=0:=Nat.lt_one_iff.1 hb
    rfl
   ·simp [zea]
  ·have c1:¬c.length=0:=by omega
   refine AXs.rounds mixed zh zbR [(),()] (by kernel_rfl) ?_
   simp (disch:=first|assumption|(push_cast<;>omega)|omega) only [go_sem,zhY,a1,c1]
   refine⟨by omega,by omega,?_⟩
   refine AXa.go mixed (zh) (zbR) (by kernel_rfl) ?_
   simp only [go_sem]
   refine⟨[(2,.sl 1 0 (a++c).length 1 none)],Sub.of [(1,3)] rfl ?_ ?_ (Nat.le_succ _) (fun b hb _=>?_),?_⟩
   ·simp only [go_sem]
    simp
   ·simp only [go_sem]
    try rw [strs_app,List.take_of_length_le (by simp [strs])]
    try exact zu fun x hx=>(List.mem_append.1 hx).elim (zT a x) (zT c x)
   ·obtain rfl:b=0:=Nat.lt_one_iff.1 hb
    rfl
   ·rfl
theorem zqh:NCall Tryz.prog 28 [.sl 0 0 2 1 (some 2)] [.cells [.fs [] 0,.fs [] 0]] [] .nilS ⟨[(0,.cells [.fs [] 0,.fs [] 0])],1⟩:=by
 refine NCall.walk (rs:=[.tmp 2]) [0,2,3,5,6,8,9,10,11,12,20,25,26,27,28] [] 1 mixed (zh) (zbR) call28 Tryz.func28 rfl Tryz.ntmps28 rfl (by kernel_rfl) (by simp) (by simp) (by simp) ?_;simp only [go_sem];refine AXs.rounds mixed zh zbR [(),()] (by kernel_rfl) ?_;simp (disch:=first|assumption|(push_cast<;>omega)|omega) only [go_sem,decide_false,Int.zero_add];refine AXa.go mixed (zh) (zbR) (by kernel_rfl) ?_;have hg:ΔSg 52 [.nilS,.int .i64 0] ⟨[(0,.cells [.fs [] 0,.fs [] 0])],1⟩=_:=zve [(0,.cells [.fs [] 0,.fs [] 0])] 1 (by rfl);simp (disch:=first|assumption|(push_cast<;>omega)|omega) only [go_sem,hg];refine AXs.rounds mixed zh zbR [(),()] (by kernel_rfl) ?_;simp (disch:=first|assumption|(push_cast<;>omega)|omega) only [go_sem];refine AXa.go mixed (zh) (zbR) (by kernel_rfl) ?_;simp only [go_sem];refine⟨[(2,.nilS)],Sub.of [] rfl ?_ ?_ (Nat.le_refl _) (fun b hb _=>?_),rfl⟩
 ·simp only [go_sem]
 ·simp only [go_sem];exact fun x hx=>(nomatch hx)
 ·obtain rfl:b=0:=Nat.lt_one_iff.1 hb;rfl
def zl4(args:List V)(H:Hp)(r:AR):Prop:=
 ∃(b:Nat) (a c:List Str),args=[.sl b 0 2 1 (some 2)]∧H.get b=some (.cells [.fs (strs a) a.length,.fs (strs c) c.length])∧a.length≤100000∧c.length≤100000∧(∀ b x,H.get b=some x→b<H.next)∧
  r=if a.length+c.length=0 then⟨True,.nilS,H,[b],[]⟩else⟨True,.sl H.next 0 (a++c).length 1 none,⟨(H.next,.cells (strs (a++c)))::H.bs,H.next+1⟩,[b],[]⟩
theorem zqf:∀ args H r,zl4 args H r→HCall Tryz.prog 28 args H r:=by
 rintro args H r ⟨b,a,c,rfl,hb,ha,hc,hk,rfl⟩;have hF':∀(i:Nat) (x:Blk),([Blk.cells [.fs (strs a) a.length,.fs (strs c) c.length]]:List Blk)[i]? =some x→∀ π N,RnB π N x x:=by
  intro i x hx π N;match i with
  |0=>
   cases hx;exact .cells (zu fun x hx=>by
    simp only [List.mem_cons,List.not_mem_nil,or_false]at hx;rcases hx with rfl|rfl
    ·exact .fs (zT a)
    ·exact .fs (zT c))
  |i+1=>simp at hx
 have hF:∀(i:Nat) (x:Blk),([Blk.cells [.fs (strs a) a.length,.fs (strs c) c.length]]:List Blk)[i]? =some x→∃ b',[b][i]? =some b'∧H.get b'=some x∧RnB (fun i=>[b].getD i 0) (· <1) x x:=by
  intro i x hx;match i with
  |0=>exact⟨b,rfl,by cases hx;exact hb,hF' 0 x hx _ _⟩
  |i+1=>simp at hx
 have hargs:LRel (Rn (fun i=>[b].getD i 0) (· <1)) [V.sl 0 0 2 1 (some 2)] [.sl b 0 2 1 (some 2)]:=by
  refine⟨rfl,fun i x y hx hy=>?_⟩;match i with
  |0=>cases hx;cases hy;exact .sl (π:=fun i=>[b].getD i 0) (b:=0) (Nat.lt_one_iff.2 rfl) (.inr rfl)
  |i+1=>simp at hx
 by_cases h0:a.length+c.length=0
 ·rw [if_pos h0];obtain rfl:a=[]:=List.eq_nil_of_length_eq_zero (by omega);obtain rfl:c=[]:=List.eq_nil_of_length_eq_zero (by omega);exact HCall.none zqh .nilS [b] _ H rfl (by simp) hargs hF hF' hk
 ·rw [if_neg h0];have pc:∀ x∈strs (a++c),Pure x:=zT _;exact HCall.fresh (F:=[.cells [.fs (strs a) a.length,.fs (strs c) c.length]]) (zvf a c ha hc (by omega)) pc [b] _ H rfl (by simp) hargs hF hF' hk
theorem zqg(b:Nat)(a c:List Str)(bs:List (Nat×Blk))(nx:Nat)(hb:zaM bs b=some (.cells [.fs (strs a) a.length,.fs (strs c) c.length]))(ha:a.length≤100000)(hc:c.length≤100000)(hk:((keysB bs).all fun b=>decide (b<nx))=true):
 conD zl4 [.sl b 0 2 1 (some 2)] ⟨bs,nx⟩=some (if a.length+c.length=0 then⟨True,.nilS,⟨bs,nx⟩,[b],[]⟩else⟨True,.sl nx 0 (a++c).length 1 none,⟨(nx,.cells (strs (a++c)))::bs,nx+1⟩,[b],[]⟩):=by
 have hg:(⟨bs,nx⟩:Hp).get b=some (.cells [.fs (strs a) a.length,.fs (strs c) c.length]):=(zaP bs b).trans hb
 refine zaN ⟨b,a,c,rfl,hg,ha,hc,zbs hk,rfl⟩ ?_
 rintro r' ⟨b',a',c',he,hb',_,_,_,rfl⟩
 simp only [List.cons.injEq,V.sl.injEq,and_true]at he
 subst he
 rw [hg]at hb'
 simp only [Option.some.injEq,Blk.cells.injEq,List.cons.injEq,V.fs.injEq,and_true]at hb'
 obtain⟨⟨h1,_⟩,h2,_⟩:=hb'
 rw [zbY h1,zbY h2]
end Go.Proofs

namespace Go.Proofs
open Go.Ab Go.Cnt Go.Pl
structure Fit(m:Mdl):Prop where
 tl:m.tags.length≤100000
 wl:m.words.length≤100000
 nl:m.next.length≤100000
 el:m.emit.length≤100000
 ts:∀ s∈m.tags,s.length≤1000000
 ws:∀ s∈m.words,s.length≤1000000
 nr:∀ r∈m.next,r.length≤1000000
 er:∀ r∈m.emit,r.length≤1000000
 ns:∀ r∈m.next,∀ s∈r,s.length≤1000000
 es:∀ r∈m.emit,∀ s∈r,s.length≤1000000
noncomputable def vmB(m:Mdl):Bool:=decide (m.tags.length≤40)&&(decide (m.words.length≤500)&&(incS m.tags&&(incS m.words&&((m.tags++m.words).all nameB&&(matB m.next (m.tags.length+1) (m.tags.length+1)&&matB m.emit m.tags.length (m.words.length+1))))))
noncomputable def cRows:List V→Option PR:=zD (fun p:List (List Str)×Nat×Nat=>[.fs (za8 p.1) p.1.length,.int .i64 p.2.1,.int .i64 p.2.2]) (fun p=>p.1.length≤1000000∧(∀ r∈p.1,r.length≤1000000)∧∀ r∈p.1,∀ s∈r,s.length≤1000000) fun p=>.ret (.bool (matB p.1 p.2.1 p.2.2))
theorem cRows_ok:∀ args r,cRows args=some r→PCall Tryz.prog 29 args r:=zo fun p h=>rows_ok p.1 p.2.1 p.2.2 h.1 h.2.1 h.2.2
theorem zrD(m:List (List Str))(n w:Nat)(a b:Int)(ha:a=n)(hb:b=w)(h1:m.length≤1000000)(h2:∀ r∈m,r.length≤1000000)(h3:∀ r∈m,∀ s∈r,s.length≤1000000):cRows [.fs (za8 m) m.length,.int .i64 a,.int .i64 b]=some (.ret (.bool (matB m n w))):=by
 subst ha hb;exact zn (pat:=fun p:List (List Str)×Nat×Nat=>[V.fs (za8 p.1) p.1.length,.int .i64 p.2.1,.int .i64 p.2.2]) (fun x y h=>by
  obtain⟨x1,x2,x3⟩:=x;obtain⟨y1,y2,y3⟩:=y;simp only [List.cons.injEq,V.fs.injEq,V.int.injEq,and_true,true_and]at h;obtain⟨⟨e1,_⟩,e2,e3⟩:=h;have e2':x2=y2:=by omega
  have e3':x3=y3:=by omega
  rw [zfv e1,e2',e3']) (m,n,w) ⟨h1,h2,h3⟩
noncomputable def ΔV:FuncId→List V→Hp→Option AR:=zct 28 (conD zl4) noΔ
theorem zl5:zbo Tryz.prog ΔV:=zaw (zaQ zqf) zg
set_option maxHeartbeats 8000000 in
set_option maxRecDepth 100000 in
theorem zkk(m:Mdl)(h:Fit m):PCall Tryz.prog 11 [mdlV m] (.ret (.bool (vmB m))):=by
 have hΓ:=zf zzZ (zf zfY (zf cRows_ok zh));obtain⟨tl,wl,nl,el,ts,ws,nr,er,ns,es⟩:=h;obtain⟨T,W,N,E⟩:=m;dsimp only at tl wl nl el ts ws nr er ns es;have m1:=zrD N (T.length+1) (T.length+1) ((T.length:Int)+1) ((T.length:Int)+1) (by omega) (by omega) (by omega) nr ns;have m2:=zrD E T.length (W.length+1) (T.length:Int) ((W.length:Int)+1) rfl (by omega) (by omega) er es;refine PCall.walk (rs:=[.tmp 2]) [0,1,2,3,4,6,30,36,37,38,39,44] [28] mixed (hΓ) (zl5) call11 Tryz.func11 rfl Tryz.ntmps11 rfl (by kernel_rfl) (by simp) (by simp [push_cast,zlj]) ?_;have hb:(decide (40<(T.length:Int))||decide (500<(W.length:Int))|| !incS T|| !incS W)= !(decide (T.length≤40)&&decide (W.length≤500)&&incS T&&incS W):=by
  have e1:decide (40<(T.length:Int))= !decide (T.length≤40):=by
   by_cases h:T.length≤40
   ·simp [h];omega
   ·simp [h];omega
  have e2:decide (500<(W.length:Int))= !decide (W.length≤500):=by
   by_cases h:W.length≤500
   ·simp [h];omega
   ·simp [h];omega
  rw [e1,e2];cases decide (T.length≤40)<;>cases decide (W.length≤500)<;>cases incS T<;>cases incS W<;>rfl
 have hv:vmB ⟨T,W,N,E⟩=((decide (T.length≤40)&&decide (W.length≤500)&&incS T&&incS W)&&((T++W).all nameB&&(matB N (T.length+1) (T.length+1)&&matB E T.length (W.length+1)))):=by simp only [vmB,Bool.and_assoc]
 rw [hv];simp (disch:=first|assumption|(push_cast<;>omega)|omega) only [go_sem,mdlV];rw [hb];cases h0:(decide (T.length≤40)&&decide (W.length≤500)&&incS T&&incS W)with
 |false=>simp (disch:=first|assumption|(push_cast<;>omega)|omega) only [go_sem]
 |true=>
  have hC:=zqg 0 T W [(0,.cells [.fs (strs T) T.length,.fs (strs W) W.length])] 1 rfl tl wl rfl;by_cases he:T.length+W.length=0
  ·rw [if_pos he]at hC;have hC':ΔV 28 [.sl 0 0 2 1 (some 2)] ⟨[(0,.cells [.fs (strs T) T.length,.fs (strs W) W.length])],1⟩=_:=hC;obtain rfl:T=[]:=List.eq_nil_of_length_eq_zero (by omega);obtain rfl:W=[]:=List.eq_nil_of_length_eq_zero (by omega);have hC2:ΔV 28 [.sl 0 0 2 1 (some 2)] ⟨[(0,.cells [.fs [] 0,.fs [] 0])],1⟩=some ⟨True,.nilS,⟨[(0,.cells [.fs [] 0,.fs [] 0])],1⟩,[0],[]⟩:=hC';have k1:cRows [.fs (za8 N) N.length,.int .i64 1,.int .i64 1]=some (.ret (.bool (matB N 1 1))):=m1;have k2:cRows [.fs (za8 E) E.length,.int .i64 0,.int .i64 1]=some (.ret (.bool (matB E 0 1))):=m2;simp (disch:=first|assumption|(push_cast<;>omega)|omega) only [go_sem,hC2];refine AXs.rounds mixed hΓ zl5 [] (by kernel_rfl) ?_;simp (disch:=first|assumption|(push_cast<;>omega)|omega) only [go_sem];refine AXa.go mixed (hΓ) (zl5) (by kernel_rfl) ?_;simp (disch:=first|assumption|(push_cast<;>omega)|omega) only [go_sem,k1,k2]
  rw [if_neg he]at hC;have hC':ΔV 28 [.sl 0 0 2 1 (some 2)] ⟨[(0,.cells [.fs (strs T) T.length,.fs (strs W) W.length])],1⟩=_:=hC;have hlen:(T++W).length=T.length+W.length:=List.length_append;simp (disch:=first|assumption|(push_cast<;>omega)|omega) only [go_sem,hC',hlen];have hpm:∀ x∈[V.fs (strs T) T.length,.fs (strs W) W.length,.fs (za8 N) N.length,.fs (za8 E) E.length],Pure x:=fun x h=>by
   simp only [List.mem_cons,List.not_mem_nil,or_false]at h;rcases h with rfl|rfl|rfl|rfl
   ·exact .fs (zT _)
   ·exact .fs (zT _)
   ·exact .fs (zaa _)
   ·exact .fs (zaa _)
  generalize hA:T++W=A at*;refine AXs.loop mixed (hΓ) (zl5) (fun i:Nat=>[(1,.fp [.fs (strs T) T.length,.fs (strs W) W.length,.fs (za8 N) N.length,.fs (za8 E) E.length]),(3,.int .i64 T.length),(4,.int .i64 W.length),(36,.sl 1 0 (T.length+W.length) 1 none),(37,.int .i64 (T.length+W.length:Nat)),(38,.int .i64 i)]) (fun _=>⟨[(1,.cells (strs A))],2⟩) (fun i=>i≤A.length∧∀ j,j<i→nameB (A.getD j [])=true) (fun i=>A.length - i) 0 (by kernel_rfl) ⟨Nat.zero_le _,fun j hj=>by omega⟩ (Sub.of0 [] rfl rfl ?_ ?_) ?_
  ·simp only [go_sem];exact hpm
  ·simp only [go_sem]
  rintro i ⟨h1,h2⟩;simp (disch:=first|assumption|(push_cast<;>omega)|omega) only [go_sem];refine AXc.introP (fun h3=>?_) (fun h3=>?_)
  ·have hi:i<A.length:=by omega
   simp (disch:=first|assumption|(push_cast<;>omega)|omega) only [go_sem]
   (repeat refine sdC ?_);cases hn:nameB (A.getD i [])with
   |false=>
    simp (disch:=first|assumption|(push_cast<;>omega)|omega) only [go_sem];rw [allS_f hi hn];rfl
   |true=>
    simp (disch:=first|assumption|(push_cast<;>omega)|omega) only [go_sem];refine zk (i+1) ⟨by omega,fun j hj=>?_⟩ (by omega) (Sub.of0 [] rfl rfl ?_ ?_)
    ·by_cases hji:j<i
     ·exact h2 j hji
     ·obtain rfl:j=i:=by omega
      exact hn
    ·simp only [go_sem];refine⟨hpm,?_⟩;simp
    ·simp only [go_sem]
  ·have hi:i=A.length:=by omega
   rw [allS_t fun j hj=>h2 j (by omega)];simp (disch:=first|assumption|(push_cast<;>omega)|omega) only [go_sem];refine AXa.go mixed (hΓ) (zl5) (by kernel_rfl) ?_;simp (disch:=first|assumption|(push_cast<;>omega)|omega) only [go_sem,m1,m2]
end Go.Proofs

namespace Go.Proofs
open Go.Ab Go.Cnt Go.Pl
def Is(a:Str)(x y:Nat):Prop:=0<y∧∃ n d,ratP a=some (false,n,d)∧n*y=x*d
theorem mulr {a b c:Nat}(hc:0<c)(h:a*c=b*c):a=b:=Nat.eq_of_mul_eq_mul_right hc h
theorem Is.eq {a:Str}{x y u v:Nat}(h:Is a x y)(hv:0<v)(e:x*v=u*y):Is a u v:=by
 obtain⟨hy,n,d,hr,he⟩:=h;refine⟨hv,n,d,hr,mulr hy ?_⟩;calc n*v*y=n*y*v:=by ac_rfl
  _=x*v*d:=by rw [he];ac_rfl
  _=u*d*y:=by rw [e];ac_rfl
theorem Is.zero {a:Str}{y:Nat}(h:Is a 0 y):a=[48]:=by
 obtain⟨hy,n,d,hr,he⟩:=h;have:n=0:=by
  rcases Nat.mul_eq_zero.1 (he.trans (Nat.zero_mul d))with h|h
  ·exact h
  ·omega
 subst this;exact zhO hr
theorem Is.pos {a:Str}{x y:Nat}(h:Is a x y)(hx:0<x):a≠[48]:=by rintro rfl;obtain⟨hy,n,d,hr,he⟩:=h;have e:some (false,0,1)=some (false,n,d):=ratP_0.symm.trans hr;simp only [Option.some.injEq,Prod.mk.injEq,true_and]at e;rw [←e.1, ←e.2]at he;omega
theorem Is.dec {n:Nat}(h:(dec n).length≤400):Is (dec n) n 1:=⟨by omega,n,1,zcJ h,rfl⟩
theorem zxl {m d:Nat}(hd:0<d)(h:(resP (mkV false m d)).2=0):Is (resP (mkV false m d)).1 m d:=by obtain⟨h1,h2⟩:=(zfG m d hd).2 h;have g1:m / Nat.gcd m d*Nat.gcd m d=m:=Nat.div_mul_cancel (Nat.gcd_dvd_left m d);have g2:d / Nat.gcd m d*Nat.gcd m d=d:=Nat.div_mul_cancel (Nat.gcd_dvd_right m d);refine⟨hd,_,_,h1,?_⟩;generalize m / Nat.gcd m d=p at*;generalize d / Nat.gcd m d=q at*;generalize Nat.gcd m d=g at*;subst g1 g2;ac_rfl
theorem Is.add {a b:Str}{x y u v:Nat}(ha:Is a x y)(hb:Is b u v)(h:(resP (zG a b)).2=0):Is (resP (zG a b)).1 (x*v+u*y) (y*v):=by
 obtain⟨hy,m,d,hr,he⟩:=ha;obtain⟨hv,n,f,hs,hf⟩:=hb;have hd:=(za2 hr).1;have hff:=(za2 hs).1;rw [zdg hr hs,zg1]at h ⊢;refine(zxl (Nat.mul_pos hd hff) h).eq (Nat.mul_pos hy hv) ?_;show (m*f+n*d)*(y*v)=(x*v+u*y)*(d*f);rw [Nat.add_mul,Nat.add_mul];congr 1
 ·calc m*f*(y*v)=m*y*(f*v):=by ac_rfl
   _=x*v*(d*f):=by rw [he];ac_rfl
 ·calc n*d*(y*v)=n*v*(d*y):=by ac_rfl
   _=u*y*(d*f):=by rw [hf];ac_rfl
theorem Is.mul {a b:Str}{x y u v:Nat}(ha:Is a x y)(hb:Is b u v)(h:(resP (zK a b)).2=0):Is (resP (zK a b)).1 (x*u) (y*v):=by
 obtain⟨hy,m,d,hr,he⟩:=ha;obtain⟨hv,n,f,hs,hf⟩:=hb;have hd:=(za2 hr).1;have hff:=(za2 hs).1;rw [zhQ hr hs]at h ⊢;refine(zxl (Nat.mul_pos hd hff) h).eq (Nat.mul_pos hy hv) ?_;calc m*n*(y*v)=(m*y)*(n*v):=by ac_rfl
  _=x*u*(d*f):=by rw [he,hf];ac_rfl
theorem Is.div {a b:Str}{x y u v:Nat}(ha:Is a x y)(hb:Is b u v)(hu:0<u)(h:(resP (zaW a b)).2=0):Is (resP (zaW a b)).1 (x*v) (y*u):=by
 obtain⟨hy,m,d,hr,he⟩:=ha;obtain⟨hv,n,f,hs,hf⟩:=hb;have hd:=(za2 hr).1;have hff:=(za2 hs).1;have hn:n≠0:=by rintro rfl;rw [Nat.zero_mul]at hf;have:=Nat.mul_pos hu hff;omega
 rw [zfy hr hs,if_neg hn]at h ⊢;refine(zxl (Nat.mul_pos hd (Nat.pos_of_ne_zero hn)) h).eq (Nat.mul_pos hy hu) ?_;calc m*f*(y*u)=(m*y)*(u*f):=by ac_rfl
  _=x*v*(d*n):=by rw [he, ←hf];ac_rfl
theorem Is.one {a:Str}{y:Nat}(h:Is a y y):∃ d,ratP a=some (false,d,d):=by
 obtain⟨hy,n,d,hr,he⟩:=h;have:n=d:=by rw [Nat.mul_comm y d]at he;exact mulr hy he
 subst this;exact⟨_,hr⟩
theorem ratP_one {a:Str}{d:Nat}(h:ratP a=some (false,d,d)):a=[49]:=by
 have hg:=(za2 h).2.1;rw [Nat.gcd_self]at hg;subst hg;unfold ratP at h;split at h
 case isFalse=>cases h
 case isTrue hk=>
  simp only [Option.some.injEq,Prod.mk.injEq]at h
  obtain⟨n1,h1,h2⟩:=h
  simp only [zbP,Bool.and_eq_true,decide_eq_true_eq]at hk
  obtain⟨⟨⟨⟨k1,k2⟩,k3⟩,k4⟩,k5⟩:=hk
  have e1:=zak (shortN_iff.1 k1).1
  have e2:=zak (shortN_iff.1 k2).1
  rw [h1]at e1
  rw [h2]at e2
  have e3:(zB a).2.1=[49]:=e1.symm
  have e4:(zB a).2.2.1=[49]:=e2.symm
  rw [e4]at k4
  have n2:(zB a).2.2.2=false:=by cases h:(zB a).2.2.2<;>simp_all
  rw [←zhN n1 n2];exact e3
theorem Is.p01 {a:Str}{x y:Nat}(h:Is a x y)(hxy:x≤y):p01 a=true:=by
 obtain⟨hy,n,d,hr,he⟩:=h;have hd:=(za2 hr).1;have hnd:n≤d:=by
  have h1:n*y≤d*y:=by rw [he,Nat.mul_comm d y];exact Nat.mul_le_mul_right d hxy
  exact Nat.le_of_mul_le_mul_right h1 hy
 have e1:ratP [49]=some (false,1,1):=zcJ (n:=1) (by decide);have c0:0≤zbK a [48]:=by
  rw [zg8 hr ratP_0];have:sumS false (n*1) (!false) (0*d)=(false,n):=by simp [sumS]
  rw [this];split
  ·exact Int.le_refl _
  ·rw [if_neg (by simp)];decide
 have c1:zbK a [49]≤0:=by
  rw [zg8 hr e1];have:sumS false (n*1) (!false) (1*d)=if d≤n then(false,n - d)else(true,d - n):=by simp [sumS]
  rw [this];by_cases hdn:d≤n
  ·rw [if_pos hdn,if_pos (show n - d=0 by omega)];exact Int.le_refl _
  ·rw [if_neg hdn,if_neg (show ¬d - n=0 by omega),if_pos rfl];decide
 unfold Go.Proofs.p01;rw [hr,decide_eq_true c0,decide_eq_true c1];rfl
def sumR(r:List Str):Nat→Str×Int
 |0=>([48],0)
 |j+1=>resP (zG (sumR r j).1 (r.getD j []))
def zbS(r:List Str):Nat→Nat
 |0=>0
 |j+1=>if r.getD j []=[48]then zbS r j+1 else zbS r j
theorem sumR_len(r:List Str):∀ j,(sumR r j).1.length≤1000
 |0=>by simp [sumR]
 |j+1=>zdG _ _
theorem zl7(r:List Str):∀ j,zbS r j≤j
 |0=>Nat.le_refl _
 |j+1=>by have:=zl7 r j;unfold zbS;split<;>omega
theorem zqO {all k:Str}{ns:List Nat}:∀ j,(outR all k ns j).1=0→∀ i,i<j→(pR all k (ns.getD i 0)).2=0∧(outR all k ns j).2.getD i []=(pR all k (ns.getD i 0)).1
 |0,_,i,hi=>by omega
 |j+1,h,i,hi=>by
  have ih:=zqO (all:=all) (k:=k) (ns:=ns) j;have hl:=zkY (all:=all) (k:=k) (ns:=ns) j;unfold outR at h ⊢;by_cases h1:(outR all k ns j).1≠0
  ·rw [if_pos h1]at h;exact absurd h h1
  ·rw [if_neg h1]at h ⊢;have h1':(outR all k ns j).1=0:=by simpa using h1
   by_cases h2:(pR all k (ns.getD j 0)).2≠0
   ·rw [if_pos h2]at h;exact absurd h h2
   ·rw [if_neg h2];have h2':(pR all k (ns.getD j 0)).2=0:=by simpa using h2
    by_cases hij:i<j
    ·obtain⟨q1,q2⟩:=ih h1' i hij;refine⟨q1,?_⟩;rw [←q2];simp only [List.getD_eq_getElem?_getD];rw [List.getElem?_append_left (by rw [hl h1'];exact hij)]
    ·obtain rfl:i=j:=by omega
     refine⟨h2',?_⟩;simp only [List.getD_eq_getElem?_getD];rw [List.getElem?_append_right (by rw [hl h1'];exact Nat.le_refl _),hl h1',Nat.sub_self];rfl
def sumN(ns:List Nat):Nat→Nat
 |0=>0
 |j+1=>sumN ns j+ns.getD j 0
theorem zqB(v:List Nat)(p n:Nat):∀ j,sumN (v.set p (v.getD p 0+n)) j=if p<j∧p<v.length then sumN v j+n else sumN v j
 |0=>by simp [sumN]
 |j+1=>by
  have ih:=zqB v p n j;unfold sumN;rw [ih,List.getD_eq_getElem?_getD,List.getElem?_set];by_cases hpj:p=j
  ·subst hpj;rw [if_pos rfl,if_neg (fun h=>absurd h.1 (Nat.lt_irrefl _))];by_cases hl:p<v.length
   ·rw [if_pos hl,if_pos ⟨by omega,hl⟩];simp only [Option.getD_some];omega
   ·rw [if_neg hl,if_neg (fun h=>hl h.2),List.getD_eq_getElem?_getD,List.getElem?_eq_none (by omega)]
  ·rw [if_neg hpj, ←List.getD_eq_getElem?_getD];by_cases hl:p<j∧p<v.length
   ·rw [if_pos hl,if_pos ⟨by omega,hl.2⟩];omega
   ·rw [if_neg hl,if_neg (fun h=>hl ⟨by omega,h.2⟩)]
theorem zmh(n:Nat):∀ j,sumN (List.replicate n 0) j=0
 |0=>rfl
 |j+1=>by unfold sumN;rw [zmh n j,List.getD_eq_getElem?_getD,List.getElem?_replicate];split<;>rfl
theorem zjl(a:Str)(T:List Str)(l:List Ent):∀ i,sumN (vecU a T l i) (T.length+1)=sumU a l i
 |0=>zmh _ _
 |i+1=>by
  have ih:=zjl a T l i;have hl:=zdx a T l i;have hx:=ixU_le T (nthE l i).1.2 T.length (Nat.le_refl _);show sumN (zmb a T (vecU a T l i) (nthE l i)) _=_;unfold zmb sumU;split
  ·rw [zqB,if_pos ⟨by omega,by omega⟩,ih]
  ·exact ih
theorem zqC(ns:List Nat)(p q:Nat):∀ j,sumN (ns.map fun n=>n*p+q) j=sumN ns j*p+j*q∨ns.length<j
 |0=>.inl (by simp [sumN])
 |j+1=>by
  by_cases hj:ns.length<j+1
  ·exact .inr hj
  refine .inl ?_;have ih:=(zqC ns p q j).resolve_right (by omega);unfold sumN;rw [ih,List.getD_eq_getElem?_getD,List.getElem?_map,List.getElem?_eq_getElem (by omega),List.getD_eq_getElem?_getD,List.getElem?_eq_getElem (by omega)];simp only [Option.map_some,Option.getD_some];rw [Nat.add_mul,Nat.add_mul,Nat.one_mul];omega
def zdE(k:Str)(r:List Str):Prop:=
 (∀ p∈r,p01 p=true)∧((∀ j,j<r.length→(sumR r j).2=0)→(sumR r r.length).2=0→
  ((sumR r r.length).1=[49]∨(zbS r r.length=r.length∧(sumR r r.length).1=[48]))∧(k=[48]∨(zbS r r.length=0∧(sumR r r.length).1=[49])))
theorem sum_is {r:List Str}{D:Nat}{N:List Nat}(hD:0<D)(hr:∀ i,i<r.length→Is (r.getD i []) (N.getD i 0) D)(h0:∀ j,j≤r.length→(sumR r j).2=0):∀ j,j≤r.length→Is (sumR r j).1 (sumN N j) D
 |0,_=>⟨hD,0,1,ratP_0,by simp [sumN]⟩
 |j+1,hj=>by have ih:=sum_is hD hr h0 j (by omega);have q:=ih.add (hr j (by omega)) (h0 (j+1) hj);refine q.eq hD ?_;show (sumN N j*D+N.getD j 0*D)*D=(sumN N j+N.getD j 0)*(D*D);rw [←Nat.add_mul];ac_rfl
theorem zvG(ns:List Nat){i:Nat}:∀ j,i<j→ns.getD i 0≤sumN ns j
 |0,h=>by omega
 |j+1,h=>by
  unfold sumN;by_cases hij:i<j
  ·have:=zvG ns j hij;omega
  ·obtain rfl:i=j:=by omega
   omega
theorem zl6 {r:List Str}(h:∀ i,i<r.length→r.getD i []=[48]):∀ j,j≤r.length→zbS r j=j
 |0,_=>rfl
 |j+1,hj=>by unfold zbS;rw [if_pos (h j (by omega)),zl6 h j (by omega)]
theorem zjj {r:List Str}(h:∀ i,i<r.length→r.getD i []≠[48]):∀ j,j≤r.length→zbS r j=0
 |0,_=>rfl
 |j+1,hj=>by unfold zbS;rw [if_neg (h j (by omega)),zjj h j (by omega)]
theorem zqV {r:List Str}{p:Str}(h:p∈r):∃ i,i<r.length∧r.getD i []=p:=by obtain⟨i,hi,rfl⟩:=List.mem_iff_getElem.1 h;exact⟨i,hi,by rw [List.getD_eq_getElem?_getD,List.getElem?_eq_getElem hi];rfl⟩
theorem pR_is {all k:Str}{n kn kd D:Nat}(hk:Is k kn kd)(ha:Is all D kd)(hD:0<D)(hn:(dec n).length≤400)(h:(pR all k n).2=0):Is (pR all k n).1 (n*kd+kn) D:=by
 unfold pR at h ⊢;have hne:=ha.pos hD;by_cases h1:(resP (zG (dec n) k)).2=0
 ·rw [if_pos ⟨h1,hne⟩]at h ⊢;have q:=((Is.dec hn).add hk h1).div ha hD h;refine q.eq hD ?_;have:=hk.1;rw [Nat.one_mul,Nat.mul_one];ac_rfl
 ·rw [if_neg (fun h=>h1 h.1)]at h;exact absurd h h1
theorem zwA {k:Str}(hp:(ratP k).isSome=true)(hk:k.head? ≠some 45){len s:Nat}(hl:0<len)(ll:len≤1000000)(ls:s≤1000000000000){ns:List Nat}(hn:ns.length=len)(hs:sumN ns len=s)(h:(zcL k len s ns).1=0):zdE k (zcL k len s ns).2∧(zcL k len s ns).2.length=len:=by
 obtain⟨kn,kd,hr,hkd⟩:=ze1 hp hk;have ik:Is k kn kd:=⟨hkd,kn,kd,hr,rfl⟩;have l1:(dec len).length≤400:=Nat.le_trans (zax (k:=7) (by omega) (by omega)) (by omega);have l2:∀ n,n≤s→(dec n).length≤400:=fun n hn=>Nat.le_trans (zax (k:=13) (by omega) (by omega)) (by omega);unfold zcL at h ⊢;by_cases e1:(resP (zK k (dec len))).2≠0
 ·rw [if_pos e1]at h;exact absurd h e1
 rw [if_neg e1]at h ⊢;have e1':(resP (zK k (dec len))).2=0:=by simpa using e1
 by_cases e2:(resP (zG (resP (zK k (dec len))).1 (dec s))).2≠0
 ·rw [if_pos e2]at h;exact absurd h e2
 rw [if_neg e2]at h ⊢;have e2':(resP (zG (resP (zK k (dec len))).1 (dec s))).2=0:=by simpa using e2
 have ia0:=(ik.mul (Is.dec l1) e1').add (Is.dec (l2 s (Nat.le_refl _))) e2';have ia:Is (resP (zG (resP (zK k (dec len))).1 (dec s))).1 (kn*len+s*kd) kd:=ia0.eq hkd (by rw [Nat.mul_one,Nat.mul_one,Nat.mul_one]);generalize (resP (zG (resP (zK k (dec len))).1 (dec s))).1=all at*;have hlen:=zkY ns.length h;have hget:=zqO ns.length h;generalize (outR all k ns ns.length).2=r at*;have hrl:r.length=len:=by rw [hlen,hn]
 refine⟨?_,hrl⟩;have hns:∀ i,i<len→ns.getD i 0≤s:=fun i hi=>by rw [←hs];exact zvG ns len hi
 rcases Nat.eq_zero_or_pos (kn*len+s*kd)with hD|hD
 ·obtain⟨h1,h2⟩:=Nat.add_eq_zero_iff.1 hD;have hs0:s=0:=by
   rcases Nat.mul_eq_zero.1 h2 with h|h
   ·exact h
   ·omega
  have hk0:kn=0:=by
   rcases Nat.mul_eq_zero.1 h1 with h|h
   ·exact h
   ·omega
  rw [hD]at ia;have hall:=ia.zero;subst hall hk0;have hkz:=ik.zero;have hall:∀ i,i<r.length→r.getD i []=[48]:=fun i hi=>by
   have hz:ns.getD i 0=0:=by have:=hns i (by omega);omega
   have q:=(hget i (by omega)).2;rw [hz,hkz,zqj (k:=[48]) zkM]at q;exact q
  refine⟨fun p hp=>?_,fun h0 h1=>⟨.inr ⟨zl6 hall _ (Nat.le_refl _),?_⟩,.inl hkz⟩⟩
  ·obtain⟨i,hi,rfl⟩:=zqV hp;rw [hall i hi];exact Is.p01 (x:=0) (y:=1) ⟨by omega,0,1,zkM,rfl⟩ (by omega)
  ·have q:=sum_is (r:=r) (D:=1) (N:=ns) (by omega) (fun i hi=>by
    have hz:ns.getD i 0=0:=by have:=hns i (by omega);omega
    rw [hall i hi,hz]
    exact⟨by omega,0,1,zkM,rfl⟩) (fun j hj=>by
     rcases Nat.lt_or_eq_of_le hj with h|h
     ·exact h0 j h
     ·rw [h];exact h1) r.length (Nat.le_refl _)
   rw [hrl,hs,hs0]at q
   rw [hrl]
   exact q.zero
 ·have ip:∀ i,i<r.length→Is (r.getD i []) (ns.getD i 0*kd+kn) (kn*len+s*kd):=fun i hi=>by
   obtain⟨q1,q2⟩:=hget i (by omega)
   rw [q2]
   exact pR_is ik ia hD (l2 _ (hns i (by omega))) q1
  have hN:∀ i,i<r.length→(ns.map fun n=>n*kd+kn).getD i 0=ns.getD i 0*kd+kn:=fun i hi=>by rw [List.getD_eq_getElem?_getD,List.getElem?_map,List.getElem?_eq_getElem (show i<ns.length by omega),List.getD_eq_getElem?_getD,List.getElem?_eq_getElem (show i<ns.length by omega)];rfl
  have one:(∀ j,j<r.length→(sumR r j).2=0)→(sumR r r.length).2=0→(sumR r r.length).1=[49]:=fun h0 h1=>by
   have q:=sum_is (r:=r) (N:=ns.map fun n=>n*kd+kn) hD (fun i hi=>by rw [hN i hi];exact ip i hi) (fun j hj=>by
    rcases Nat.lt_or_eq_of_le hj with h|h
    ·exact h0 j h
    ·rw [h];exact h1) r.length (Nat.le_refl _)
   rw [(zqC ns kd kn r.length).resolve_right (by omega),hrl,hs,Nat.add_comm,Nat.mul_comm len kn]at q;rw [hrl];obtain⟨d,hd⟩:=q.one;exact ratP_one hd
  refine⟨fun p hp=>?_,fun h0 h1=>⟨.inl (one h0 h1),?_⟩⟩
  ·obtain⟨i,hi,rfl⟩:=zqV hp;refine(ip i hi).p01 ?_;have h1:=Nat.mul_le_mul_right kd (hns i (by omega));have h2:=Nat.mul_le_mul_left kn hl;omega
  ·rcases Nat.eq_zero_or_pos kn with hz|hz
   ·subst hz;exact .inl ik.zero
   ·exact .inr ⟨zjj (fun i hi=>(ip i hi).pos (by omega)) _ (Nat.le_refl _),one h0 h1⟩
end Go.Proofs
