/- A run: a model with the columns of its words; its methods; start. -/
import Derived.Test.YthbimeikbkjnkaaGreatDoorAbFreeze3
import Derived.Test.YthbimeikbkjnkaaGreatDoorQRat6
set_option linter.all false
set_option maxHeartbeats 16000000
set_option maxRecDepth 100000
namespace Go.Proofs
open Tryz Go.Ab Go.Cnt Go.Pl
theorem badW_ok(s:Str):PCall prog 66 [.str s] (.ret (.bool (!nameB s))):=by
 refine PCall.wD (rs:=[.tmp 2]) [0,2] [] mixed (zh) (zg) call66 func66 rfl ntmps66 rfl ?_;simp only [go_sem];have e:decide (40<(s.length:Int))= !decide (s.length≤40):=by
  by_cases h:s.length≤40
  ·rw [YB h,Yy (by omega)];rfl
  ·rw [Yy h,YB (by omega)];rfl
 unfold nameB;rw [e];cases s<;>simp
noncomputable def cBadW:List V→Option PR:=zu (fun a:Str=>[.str a]) (fun _=>True) fun a=>.ret (.bool (!nameB a))
@[go_sem] theorem cBadW_eq(a:Str):cBadW [.str a]=some (.ret (.bool (!nameB a))):=zo (pat:=fun a:Str=>[.str a]) (fun x y h=>by simpa using h) a trivial
theorem cBadW_ok:∀ args r,cBadW args=some r→PCall prog 66 args r:=zn fun a _=>badW_ok a
def fbS:List Str→Nat
 |[]=>0
 |a::l=>if nameB a=false then 0 else fbS l+1
theorem fbS_eq:∀ {l:List Str} {i:Nat},i<l.length→nameB (l.getD i [])=false→(∀ j,j<i→nameB (l.getD j [])=true)→fbS l=i
 |[],_,h,_,_=>by simp at h
 |a::l,0,_,h,_=>by
  have:nameB a=false:=by simpa using h
  unfold fbS;rw [Yf this]
 |a::l,i+1,h,h1,h2=>by
  have h3:nameB a=true:=by simpa using h2 0 (by omega)
  unfold fbS;rw [Yd (by rw [h3];simp),fbS_eq (l:=l) (i:=i) (by simpa using h) (by simpa using h1) (fun j hj=>by simpa using h2 (j+1) (by omega))]
def fbI(l:List Str):Int:=if l.all nameB=true then -1 else fbS l
theorem ixf_ok(l:List Str)(hl:l.length≤1000000):PCall prog 108 [.fs (strs l) l.length,.fn 66 []] (.ret (.int .i64 (fbI l))):=by
 have hΓ:=zf cBadW_ok zh;refine PCall.wD (rs:=[.tmp 4]) [0,1,4,5,7,8,9,16] [] mixed (hΓ) (zg) call108 func108 rfl ntmps108 rfl ?_;simp only [go_sem];refine AXs.loop mixed (hΓ) (zg) (fun i:Nat=>[(0,.fs (strs l) l.length),(1,.fn 66 []),(7,.int .i64 l.length),(8,.int .i64 i)]) (fun _=>⟨[],0⟩) (fun i=>i≤l.length∧∀ j,j<i→nameB (l.getD j [])=true) (fun i=>l.length - i) 0 (by kernel_rfl) ⟨Yk _,fun j hj=>by omega⟩ (Sub.of0 [] rfl rfl ?_ ?_) ?_
 ·simp only [go_sem]
 ·simp only [go_sem]
 rintro i ⟨h1,h2⟩;simp only [go_sem];refine AXc.introP (fun h3=>?_) (fun h3=>?_)
 ·have hi:i<l.length:=by omega
  simp (disch:=first|exact Zq|fail) only [go_sem]
  (repeat refine sdC ?_);cases hn:nameB (l.getD i [])with
  |false=>
   simp (disch:=first|exact Zq|fail) only [go_sem];have e:fbI l=i:=by unfold fbI;rw [zgC hi hn,Yd (by simp),fbS_eq hi hn h2]
   rw [e]
  |true=>
   simp (disch:=first|exact Zq|fail) only [go_sem];refine zi (i+1) ⟨by omega,fun j hj=>?_⟩ (by omega) (Sub.of0 [] rfl rfl ?_ ?_)
   ·by_cases hji:j<i
    ·exact h2 j hji
    ·obtain rfl:j=i:=by omega
     exact hn
   ·simp only [go_sem];simp
   ·simp only [go_sem]
 ·obtain rfl:i=l.length:=by omega
  have e:fbI l= -1:=by unfold fbI;rw [zgB h2,Yf rfl]
  rw [e];simp only [go_sem];refine AXa.go mixed (hΓ) (zg) (by kernel_rfl) ?_;simp only [go_sem]
noncomputable def cIxf:List V→Option PR:=zu (fun l:List Str=>[.fs (strs l) l.length,.fn 66 []]) (fun l=>l.length≤1000000) fun l=>.ret (.int .i64 (fbI l))
@[go_sem] theorem cIxf_eq(l:List Str)(hl:l.length≤1000000):cIxf [.fs (strs l) l.length,.fn 66 []]=some (.ret (.int .i64 (fbI l))):=
 zo (pat:=fun l:List Str=>[.fs (strs l) l.length,.fn 66 []]) (fun x y h=>by simp at h;exact zam h.1) l hl
theorem cIxf_ok:∀ args r,cIxf args=some r→PCall prog 108 args r:=zn fun l h=>ixf_ok l h
theorem cof_ok(l:List Str)(hl:l.length≤1000000):PCall prog 65 [.fs (strs l) l.length,.fn 66 []] (.ret (.bool (!l.all nameB))):=by
 refine PCall.wD (rs:=[.tmp 4]) [0,1,4] [] mixed (zf cIxf_ok zh) (zg) call65 func65 rfl ntmps65 rfl ?_;have e:decide (0≤fbI l)= !l.all nameB:=by
  unfold fbI;cases h:l.all nameB with
  |false=>rw [Yd (by simp)];exact YB (by omega)
  |true=>rw [Yf rfl];exact Yy (by omega)
 simp (disch:=first|exact Zq|fail) only [go_sem];rw [e]
noncomputable def cCof:List V→Option PR:=zu (fun l:List Str=>[.fs (strs l) l.length,.fn 66 []]) (fun l=>l.length≤1000000) fun l=>.ret (.bool (!l.all nameB))
@[go_sem] theorem cCof_eq(l:List Str)(hl:l.length≤1000000):cCof [.fs (strs l) l.length,.fn 66 []]=some (.ret (.bool (!l.all nameB))):=
 zo (pat:=fun l:List Str=>[.fs (strs l) l.length,.fn 66 []]) (fun x y h=>by simp at h;exact zam h.1) l hl
theorem zBj:∀ args r,cCof args=some r→PCall prog 65 args r:=zn fun l h=>cof_ok l h
def zb1(l:List Str):Bool:=l.all nameB&&decide (l.length≤200)
structure Run where
 m:Mdl
 cs:List Nat
 f:Int
def runC(r:Run):List V:=[.fs (strs r.m.tags) r.m.tags.length,.fs (strs r.m.words) r.m.words.length,.fs (zI r.m.next) r.m.next.length,.fs (zI r.m.emit) r.m.emit.length,.fs (nats .i64 r.cs) r.cs.length,.int .i64 r.f]
theorem zky {a b:Run}(h:runC a=runC b):a=b:=by obtain⟨⟨a1,a2,a3,a4⟩,a5,a6⟩:=a;obtain⟨⟨b1,b2,b3,b4⟩,b5,b6⟩:=b;simp only [runC,Yu,V.fs.injEq,V.int.injEq,Yam,Yan]at h;obtain⟨⟨h1,_⟩,⟨h2,_⟩,⟨h3,_⟩,⟨h4,_⟩,⟨h5,_⟩,h6⟩:=h;rw [zam h1,zam h2,zci h3,zci h4,zax h5,h6]
theorem zde(r:Run):∀ x∈runC r,Pure x:=fun x h=>by
 simp only [runC,YA,Y1,Ya0]at h;rcases h with rfl|rfl|rfl|rfl|rfl|rfl
 ·exact .fs (zM _)
 ·exact .fs (zM _)
 ·exact .fs (zaW _)
 ·exact .fs (zaW _)
 ·exact .fs (zat _ _)
 ·exact .int _ _
def mEnds:Meth Unit Run where
 pat _:=[]
 cel:=runC
 cond _ r:=r.m.tags.length≤1000000
 val _ r:=.int .i64 r.m.tags.length
 upd _ r:=r
 patI _ _ _:=rfl
 celI _ _:=zky
 patP _ v h:=by simp at h
 celP:=zde
 valP _ _:=.int _ _
def zyo:Meth (Str×Int) Run where
 pat x:=[.str x.1,.int .i64 x.2]
 cel:=runC
 cond _ _:=True
 val x r:=.str (kn r.f x).1
 upd x r:=⟨r.m,r.cs,(kn r.f x).2⟩
 patI x y h:=by simp at h;exact YT h.1 h.2
 celI _ _:=zky
 patP x v h:=by
  simp only [YA,Y1,Ya0]at h;rcases h with rfl|rfl
  ·exact .str _
  ·exact .int _ _
 celP:=zde
 valP _ _:=.str _
def zyn:Meth (Str×Str) Run where
 pat x:=[.str x.1,.str x.2]
 cel:=runC
 cond x _:=x.1.length≤1000000000∧x.2.length≤1000000000
 val x r:=.str (tm r.f x.1 x.2).1
 upd x r:=⟨r.m,r.cs,(tm r.f x.1 x.2).2⟩
 patI x y h:=by simp at h;exact YT h.1 h.2
 celI _ _:=zky
 patP x v h:=by
  simp only [YA,Y1,Ya0]at h;rcases h with rfl|rfl
  ·exact .str _
  ·exact .str _
 celP:=zde
 valP _ _:=.str _
theorem ends_N(r:Run)(h:r.m.tags.length≤1000000):NCall prog 34 [.ptr 0 0] [.cells (runC r)] [] (.int .i64 r.m.tags.length) ⟨[(0,.cells (runC r))],1⟩:=by
 refine NCall.walk (rs:=[.tmp 2]) [0,2] [] 1 mixed (zh) (zg) call34 func34 rfl ntmps34 rfl (by kernel_rfl) (by simp) (by simp) (by simp) ?_;obtain⟨⟨T,W,N,E⟩,cs,f⟩:=r;unfold runC;dsimp only at h ⊢;simp only [go_sem];refine⟨[(2,.int .i64 T.length)],Sub.of [] rfl ?_ ?_ (by decide) (fun b hb hw=>?_),rfl⟩
 ·simp only [go_sem]
 ·simp only [go_sem]
 ·obtain rfl:b=0:=YaB.1 hb;rfl
theorem known_N(r:Run)(p:Str)(e:Int):NCall prog 68 [.ptr 0 0,.str p,.int .i64 e] [.cells (runC r)] [0] (.str (kn r.f (p,e)).1) ⟨[(0,.cells (runC ⟨r.m,r.cs,(kn r.f (p,e)).2⟩))],1⟩:=by
 refine NCall.walkW (rs:=[.tmp 6]) [0,1,2,6,8,13] [] 1 [0] mixed (zh) (zg) call68 func68 rfl ntmps68 rfl (by kernel_rfl) (by simp) (by simp) (by simp) (by simp) ?_;obtain⟨⟨T,W,N,E⟩,cs,f⟩:=r;unfold runC kn;dsimp only;simp only [go_sem];refine AXc.introN (fun h1=>?_) (fun h1=>?_)
 ·rw [Yf h1];simp only [go_sem];refine AXc.introP (fun h2=>?_) (fun h2=>?_)
  ·rw [Yf h2];simp (disch:=first|exact Zq|fail) only [go_sem];refine⟨rfl,[(6,.str [48])],Sub.oE [] rfl ?_ ?_,rfl⟩
   ·simp only [go_sem]
   ·simp only [go_sem]
  ·rw [Yd h2];simp (disch:=first|exact Zq|fail) only [go_sem];refine⟨[(6,.str [48])],Sub.oE [] rfl ?_ ?_,rfl⟩
   ·simp only [go_sem]
   ·simp only [go_sem]
 ·rw [Yd (fun h=>h h1)];simp only [go_sem];refine⟨[(6,.str p)],Sub.oE [] rfl ?_ ?_,rfl⟩
  ·simp only [go_sem]
  ·simp only [go_sem]
noncomputable def ΔK:FuncId→List V→Hp→Option AR:=zcR 68 (conD (MethW zyo)) noΔ
theorem ΔK_ok:zba prog ΔK:=zay (zaZ (zrn zyo fun x r _=>known_N r x.1 x.2)) zg
theorem ΔK_at(r:Run)(x:Str×Int):ΔK 68 [.ptr 0 0,.str x.1,.int .i64 x.2] ⟨[(0,.cells (runC r))],1⟩=some ⟨True,.str (kn r.f x).1,⟨[(0,.cells (runC ⟨r.m,r.cs,(kn r.f x).2⟩))],1⟩,[0],[0]⟩:=
 zro zyo (b:=0) (x:=x) (s:=r) (bs:=[(0,.cells (runC r))]) (n:=1) trivial rfl rfl
theorem runC_rn {π:Nat→Nat}{N:Nat→Prop}(r:Run):LRel (Rn π N) (runC r) (runC r)↔True:=⟨fun _=>trivial,fun _=>zt (zde r)⟩
attribute [go_sem] runC_rn
theorem times_N(r:Run)(p q:Str)(lp:p.length≤1000000000)(lq:q.length≤1000000000):NCall prog 36 [.ptr 0 0,.str p,.str q] [.cells (runC r)] [0] (.str (tm r.f p q).1) ⟨[(0,.cells (runC ⟨r.m,r.cs,(tm r.f p q).2⟩))],1⟩:=by
 have hΓ:=zf zvu zh;have r1:=zAq p q lp lq;have r2:=ΔK_at r (pmul p q);have hv:tm r.f p q=kn r.f (pmul p q):=rfl;rw [hv];refine NCall.walkW (rs:=[.tmp 6]) [0,1,2,6] [] 1 [0] mixed (hΓ) (ΔK_ok) call36 func36 rfl ntmps36 rfl (by kernel_rfl) (by simp) (by simp) (by simp) (by simp) ?_;simp (disch:=first|exact Zq|fail) only [go_sem,r1,r2];refine⟨rfl,[(6,.str (kn r.f (pmul p q)).1)],Sub.oE [] rfl ?_ ?_,rfl⟩
 ·simp only [go_sem]
 ·simp only [go_sem]
end Go.Proofs

namespace Go.Proofs
open Tryz Go.Ab Go.Cnt
theorem Tryz.infoS:zgM prog 9=some (1,16,true):=by kernel_rfl
attribute [go_sem] Tryz.infoS Int.sub_zero
theorem zz9:zk prog 144:=fun a w=>by kernel_rfl
theorem zAc:zk prog 105:=fun a w=>by kernel_rfl
theorem zmb:strs []=[]:=rfl
theorem strs_app(a b:List Str):strs (a++b)=strs a++strs b:=by simp [strs]
theorem zhQ(l:List Str):(strs l).all V.one=true:=Yg.2 fun x h=>by simp only [strs,Yab]at h;obtain⟨s,_,rfl⟩:=h;rfl
def ziD(n:Nat):List V:=List.replicate n (V.str [])
theorem zCf(n:Nat):zcT (some (.string ⟨([]:List UInt8).toArray⟩)) n=ziD n:=rfl
theorem ziC(n:Nat):∀ x∈ziD n,Pure x:=by intro x hx;unfold ziD at hx;rw [Ybe hx];exact .str _
theorem zCj:NCall prog 144 [.nilS,.int .i64 0] [] [] .nilS ⟨[],0⟩:=by
 refine NCall.walk (rs:=[.tmp 4]) [0,1,4,6,16] [] 0 mixed (zh) (zg) zz9 func144 rfl ntmps144 rfl (by kernel_rfl) (by simp) (by simp) (by simp) ?_;simp only [go_sem];refine⟨[(4,.nilS)],Sub.of0 [] rfl rfl ?_ ?_,rfl⟩
 ·simp only [go_sem]
 ·simp only [go_sem]
theorem Sgrow_ok(n:Nat)(h0:0<n)(h1:n≤1000000):NCall prog 144 [.nilS,.int .i64 n] [] [] (.sl 0 0 0 1 none) ⟨[(0,.cells (ziD n))],1⟩:=by
 have h0':0<(n:Int):=by omega
 have h1':(n:Int)≤1000000:=by omega
 have h2':¬(n:Int)<0:=by omega
 refine NCall.walk (rs:=[.tmp 4]) [0,1,4,6,16] [] 0 mixed (zh) (zg) zz9 func144 rfl ntmps144 rfl (by kernel_rfl) (by simp) (by simp) (by simp) ?_;simp (disch:=first|exact Zq|fail) only [go_sem,h0',h1',h2',Ybx,Yb0,zCf];refine⟨by omega,[(4,.sl 0 0 0 1 none)],Sub.of0 [] rfl rfl ?_ ?_,rfl⟩
 ·simp only [go_sem]
 ·simp only [go_sem];exact zt (ziC n)
theorem zgD(k:IntKind)(n:Int):∀ x∈[V.nilS,V.int k n],Pure x:=by
 intro x hx;simp only [YA,Y1,Ya0]at hx;rcases hx with rfl|rfl
 ·exact .nilS
 ·exact .int _ _
def zgE(args:List V)(H:Hp)(r:AR):Prop:=
 ∃ n:Nat,args=[.nilS,.int .i64 n]∧n≤1000000∧(∀ b x,H.get b=some x→b<H.next)∧
  r=if n=0 then⟨True,.nilS,H,[],[]⟩else⟨True,.sl H.next 0 0 1 none,⟨(H.next,.cells (ziD n))::H.bs,H.next+1⟩,[],[]⟩
theorem zCh:∀ args H r,zgE args H r→HCall prog 144 args H r:=by
 rintro args H r ⟨n,rfl,hn,hk,rfl⟩;by_cases h0:n=0
 ·subst h0;rw [Yf rfl];exact HCall.none zCj .nilS [] _ H rfl .nil (zt (zgD _ _)) (fun i x hx=>by simp at hx) (fun i x hx=>by simp at hx) hk
 ·rw [Yd h0];exact HCall.fresh (F:=[]) (Sgrow_ok n (by omega) hn) (ziC n) [] _ H rfl .nil (zt (zgD _ _)) (fun i x hx=>by simp at hx) (fun i x hx=>by simp at hx) hk
theorem ziE {args:List V}{H:Hp}{r r':AR}(h:zgE args H r)(h':zgE args H r'):r'=r:=by
 obtain⟨n,rfl,_,_,rfl⟩:=h;obtain⟨m,he,_,_,rfl⟩:=h';simp only [Yu,V.int.injEq,Yam,Yan]at he;have:n=m:=by omega
 subst this;rfl
theorem zCi(n:Nat)(z:Int)(bs:List (Nat×Blk))(nx:Nat)(hz:z=n)(h0:0<n)(hn:n≤1000000)(hk:((keysB bs).all fun b=>decide (b<nx))=true):
 conD zgE [.nilS,.int .i64 z] ⟨bs,nx⟩=some ⟨True,.sl nx 0 0 1 none,⟨(nx,.cells (ziD n))::bs,nx+1⟩,[],[]⟩:=by
 subst hz
 have h:zgE [.nilS,.int .i64 n] ⟨bs,nx⟩ ⟨True,.sl nx 0 0 1 none,⟨(nx,.cells (ziD n))::bs,nx+1⟩,[],[]⟩:=⟨n,rfl,hn,zbB hk,by rw [Yd (by omega)]⟩
 exact zaK h fun r' h'=>ziE h h'
theorem zv2(bs:List (Nat×Blk))(nx:Nat)(hk:((keysB bs).all fun b=>decide (b<nx))=true):conD zgE [.nilS,.int .i64 0] ⟨bs,nx⟩=some ⟨True,.nilS,⟨bs,nx⟩,[],[]⟩:=by have h:zgE [.nilS,.int .i64 0] ⟨bs,nx⟩ ⟨True,.nilS,⟨bs,nx⟩,[],[]⟩:=⟨0,rfl,by omega,zbB hk,by rw [Yf rfl]⟩;exact zaK h fun r' h'=>ziE h h'
noncomputable def ΔSg:FuncId→List V→Hp→Option AR:=zcR 144 (conD zgE) noΔ
theorem zbN:zba prog ΔSg:=zay (zaZ zCh) zg
theorem zv3(a c:List Str)(ha:a.length≤100000)(hc:c.length≤100000)(hne:0<a.length+c.length):NCall prog 105 [.sl 0 0 2 1 (some 2)] [.cells [.fs (strs a) a.length,.fs (strs c) c.length]] []
 (.sl 1 0 (a++c).length 1 none) ⟨[(1,.cells (strs (a++c))),(0,.cells [.fs (strs a) a.length,.fs (strs c) c.length])],2⟩:=by
 refine NCall.walk (rs:=[.tmp 2]) [0,2,3,5,6,8,9,10,11,12,20,25,26,27,28] [] 1 mixed (zh) (zbN) zAc func105 rfl ntmps105 rfl (by kernel_rfl) (by simp) (by simp) (by simp) ?_
 simp only [go_sem]
 have k1:¬((a.length:Int)<0):=by omega
 have k2:¬((a.length:Int)+(c.length:Int)<0):=by omega
 refine AXs.rounds mixed zh zbN [(),()] (by kernel_rfl) ?_
 simp (disch:=first|exact Zq|fail) only [go_sem,k1,k2,Yb0,Int.zero_add]
 refine AXa.go mixed (zh) (zbN) (by kernel_rfl) ?_
 have hg:=zCi (a.length+c.length) ((a.length:Int)+(c.length:Int)) [(0,.cells [.fs (strs a) a.length,.fs (strs c) c.length])] 1 (by omega) hne (by omega) (by rfl)
 have hg':ΔSg 144 [.nilS,.int .i64 ((a.length:Int)+(c.length:Int))] ⟨[(0,.cells [.fs (strs a) a.length,.fs (strs c) c.length])],1⟩=_:=hg
 simp (disch:=first|exact Zq|fail) only [go_sem,hg']
 clear hg hg'
 rcases YD a.length with ha0|ha0
 ·obtain rfl:a=[]:=Yr ha0
  have c1:¬c.length=0:=by simp at hne;omega
  refine AXs.rounds mixed zh zbN [(),()] (by kernel_rfl) ?_
  simp (disch:=first|exact Zq|fail) only [go_sem,zmb,zhQ,c1]
  refine⟨by omega,?_⟩
  refine AXa.go mixed (zh) (zbN) (by kernel_rfl) ?_
  simp only [go_sem]
  refine⟨[(2,.sl 1 0 c.length 1 none)],Sub.of [(1,2)] rfl ?_ ?_ (Ybg _) (fun b hb _=>?_),?_⟩
  ·simp only [go_sem]
  ·simp only [go_sem]
   exact fun x hx=>(nomatch hx)
  ·obtain rfl:b=0:=YaB.1 hb
   rfl
  ·rfl
 ·have a1:¬a.length=0:=by omega
  rcases YD c.length with hc0|hc0
  ·obtain rfl:c=[]:=Yr hc0
   refine AXs.rounds mixed zh zbN [(),()] (by kernel_rfl) ?_
   simp (disch:=first|exact Zq|fail) only [go_sem,zmb,zhQ,a1]
   refine⟨by omega,?_⟩
   refine AXa.go mixed (zh) (zbN) (by kernel_rfl) ?_
   simp only [go_sem]
   refine⟨[(2,.sl 1 0 a.length 1 none)],Sub.of [(1,2)] rfl ?_ ?_ (Ybg _) (fun b hb _=>?_),?_⟩
   ·simp only [go_sem]
   ·simp only [go_sem]
    exact fun x hx=>(nomatch hx)
   ·obtain rfl:b=0:=YaB.1 hb
    rfl
   ·simp [zd0]
  ·have c1:¬c.length=0:=by omega
   refine AXs.rounds mixed zh zbN [(),()] (by kernel_rfl) ?_
   simp (disch:=first|exact Zq|fail) only [go_sem,zhQ,a1,c1]
   refine⟨by omega,by omega,?_⟩
   refine AXa.go mixed (zh) (zbN) (by kernel_rfl) ?_
   simp only [go_sem]
   refine⟨[(2,.sl 1 0 (a++c).length 1 none)],Sub.of [(1,3)] rfl ?_ ?_ (Ybg _) (fun b hb _=>?_),?_⟩
   ·simp only [go_sem]
    simp
   ·simp only [go_sem]
    try rw [strs_app,Yj (by simp [strs])]
    try exact zt fun x hx=>(Yaf.1 hx).elim (zM a x) (zM c x)
   ·obtain rfl:b=0:=YaB.1 hb
    rfl
   ·rfl
theorem zqM:NCall prog 105 [.sl 0 0 2 1 (some 2)] [.cells [.fs [] 0,.fs [] 0]] [] .nilS ⟨[(0,.cells [.fs [] 0,.fs [] 0])],1⟩:=by
 refine NCall.walk (rs:=[.tmp 2]) [0,2,3,5,6,8,9,10,11,12,20,25,26,27,28] [] 1 mixed (zh) (zbN) zAc func105 rfl ntmps105 rfl (by kernel_rfl) (by simp) (by simp) (by simp) ?_;simp only [go_sem];refine AXs.rounds mixed zh zbN [(),()] (by kernel_rfl) ?_;simp (disch:=first|exact Zq|fail) only [go_sem,Yb0,Int.zero_add];refine AXa.go mixed (zh) (zbN) (by kernel_rfl) ?_;have hg:ΔSg 144 [.nilS,.int .i64 0] ⟨[(0,.cells [.fs [] 0,.fs [] 0])],1⟩=_:=zv2 [(0,.cells [.fs [] 0,.fs [] 0])] 1 (by rfl);simp (disch:=first|exact Zq|fail) only [go_sem,hg];refine AXs.rounds mixed zh zbN [(),()] (by kernel_rfl) ?_;simp (disch:=first|exact Zq|fail) only [go_sem];refine AXa.go mixed (zh) (zbN) (by kernel_rfl) ?_;simp only [go_sem];refine⟨[(2,.nilS)],Sub.of [] rfl ?_ ?_ (Ye _) (fun b hb _=>?_),rfl⟩
 ·simp only [go_sem]
 ·simp only [go_sem];exact fun x hx=>(nomatch hx)
 ·obtain rfl:b=0:=YaB.1 hb;rfl
def zl0(args:List V)(H:Hp)(r:AR):Prop:=
 ∃(b:Nat) (a c:List Str),args=[.sl b 0 2 1 (some 2)]∧H.get b=some (.cells [.fs (strs a) a.length,.fs (strs c) c.length])∧a.length≤100000∧c.length≤100000∧(∀ b x,H.get b=some x→b<H.next)∧
  r=if a.length+c.length=0 then⟨True,.nilS,H,[b],[]⟩else⟨True,.sl H.next 0 (a++c).length 1 none,⟨(H.next,.cells (strs (a++c)))::H.bs,H.next+1⟩,[b],[]⟩
theorem zqK:∀ args H r,zl0 args H r→HCall prog 105 args H r:=by
 rintro args H r ⟨b,a,c,rfl,hb,ha,hc,hk,rfl⟩;have hF':∀(i:Nat) (x:Blk),([Blk.cells [.fs (strs a) a.length,.fs (strs c) c.length]]:List Blk)[i]? =some x→∀ π N,RnB π N x x:=by
  intro i x hx π N;match i with
  |0=>
   cases hx;exact .cells (zt fun x hx=>by
    simp only [YA,Y1,Ya0]at hx;rcases hx with rfl|rfl
    ·exact .fs (zM a)
    ·exact .fs (zM c))
  |i+1=>simp at hx
 have hF:∀(i:Nat) (x:Blk),([Blk.cells [.fs (strs a) a.length,.fs (strs c) c.length]]:List Blk)[i]? =some x→∃ b',[b][i]? =some b'∧H.get b'=some x∧RnB (fun i=>[b].getD i 0) (· <1) x x:=by
  intro i x hx;match i with
  |0=>exact⟨b,rfl,by cases hx;exact hb,hF' 0 x hx _ _⟩
  |i+1=>simp at hx
 have hargs:LRel (Rn (fun i=>[b].getD i 0) (· <1)) [V.sl 0 0 2 1 (some 2)] [.sl b 0 2 1 (some 2)]:=by
  refine⟨rfl,fun i x y hx hy=>?_⟩;match i with
  |0=>cases hx;cases hy;exact .sl (π:=fun i=>[b].getD i 0) (b:=0) (YaB.2 rfl) (.inr rfl)
  |i+1=>simp at hx
 by_cases h0:a.length+c.length=0
 ·rw [Yf h0];obtain rfl:a=[]:=Yr (by omega);obtain rfl:c=[]:=Yr (by omega);exact HCall.none zqM .nilS [b] _ H rfl (by simp) hargs hF hF' hk
 ·rw [Yd h0];have pc:∀ x∈strs (a++c),Pure x:=zM _;exact HCall.fresh (F:=[.cells [.fs (strs a) a.length,.fs (strs c) c.length]]) (zv3 a c ha hc (by omega)) pc [b] _ H rfl (by simp) hargs hF hF' hk
theorem zqL(b:Nat)(a c:List Str)(bs:List (Nat×Blk))(nx:Nat)(hb:zas bs b=some (.cells [.fs (strs a) a.length,.fs (strs c) c.length]))(ha:a.length≤100000)(hc:c.length≤100000)(hk:((keysB bs).all fun b=>decide (b<nx))=true):
 conD zl0 [.sl b 0 2 1 (some 2)] ⟨bs,nx⟩=some (if a.length+c.length=0 then⟨True,.nilS,⟨bs,nx⟩,[b],[]⟩else⟨True,.sl nx 0 (a++c).length 1 none,⟨(nx,.cells (strs (a++c)))::bs,nx+1⟩,[b],[]⟩):=by
 have hg:(⟨bs,nx⟩:Hp).get b=some (.cells [.fs (strs a) a.length,.fs (strs c) c.length]):=(zbg bs b).trans hb
 refine zaK ⟨b,a,c,rfl,hg,ha,hc,zbB hk,rfl⟩ ?_
 rintro r' ⟨b',a',c',he,hb',_,_,_,rfl⟩
 simp only [Yu,V.sl.injEq,Yam]at he
 subst he
 rw [hg]at hb'
 simp only [Yv,Blk.cells.injEq,Yu,V.fs.injEq,Yam]at hb'
 obtain⟨⟨h1,_⟩,h2,_⟩:=hb'
 rw [zam h1,zam h2]
end Go.Proofs

namespace Go.Proofs
open Tryz Go.Ab Go.Cnt Go.Pl
structure Fit(m:Mdl):Prop where
 tl:m.tags.length≤100000
 wl:m.words.length≤100000
 nl:m.next.length≤100000
 el:m.emit.length≤100000
 ts:∀ s∈m.tags,s.length≤1000000000000000
 ws:∀ s∈m.words,s.length≤1000000000000000
 nr:∀ r∈m.next,r.length≤1000000
 er:∀ r∈m.emit,r.length≤1000000
 ns:∀ r∈m.next,∀ s∈r,s.length≤1000000
 es:∀ r∈m.emit,∀ s∈r,s.length≤1000000
noncomputable def vmB(m:Mdl):Bool:=decide (m.tags.length≤40)&&(decide (m.words.length≤500)&&(incS m.tags&&(incS m.words&&((m.tags++m.words).all nameB&&(matB m.next (m.tags.length+1) (m.tags.length+1)&&matB m.emit m.tags.length (m.words.length+1))))))
noncomputable def cRows:List V→Option PR:=zu (fun p:List (List Str)×Nat×Nat=>[.fs (zI p.1) p.1.length,.int .i64 p.2.1,.int .i64 p.2.2]) (fun p=>p.1.length≤1000000∧(∀ r∈p.1,r.length≤1000000)∧∀ r∈p.1,∀ s∈r,s.length≤1000000) fun p=>.ret (.bool (matB p.1 p.2.1 p.2.2))
theorem cRows_ok:∀ args r,cRows args=some r→PCall prog 107 args r:=zn fun p h=>rows_ok p.1 p.2.1 p.2.2 h.1 h.2.1 h.2.2
theorem zrX(m:List (List Str))(n w:Nat)(a b:Int)(ha:a=n)(hb:b=w)(h1:m.length≤1000000)(h2:∀ r∈m,r.length≤1000000)(h3:∀ r∈m,∀ s∈r,s.length≤1000000):cRows [.fs (zI m) m.length,.int .i64 a,.int .i64 b]=some (.ret (.bool (matB m n w))):=by
 subst ha hb;exact zo (pat:=fun p:List (List Str)×Nat×Nat=>[V.fs (zI p.1) p.1.length,.int .i64 p.2.1,.int .i64 p.2.2]) (fun x y h=>by
  obtain⟨x1,x2,x3⟩:=x;obtain⟨y1,y2,y3⟩:=y;simp only [Yu,V.fs.injEq,V.int.injEq,Yam,Yan]at h;obtain⟨⟨e1,_⟩,e2,e3⟩:=h;have e2':x2=y2:=by omega
  have e3':x3=y3:=by omega
  rw [zci e1,e2',e3']) (m,n,w) ⟨h1,h2,h3⟩
noncomputable def zAW:List V→Option PR:=zu (fun p:List (List Str)×Nat×Nat=>[.fs (zI p.1) p.1.length,.int .i64 p.2.1,.int .i64 p.2.2]) (fun p=>p.1.length≤1000000∧(∀ r∈p.1,r.length≤1000000)∧∀ r∈p.1,∀ s∈r,s.length≤1000000) fun p=>.ret (.bool (matB p.1 p.2.1 p.2.2))
theorem zvH:∀ args r,zAW args=some r→PCall prog 48 args r:=zn fun p h=>zyl p.1 p.2.1 p.2.2 h.1 h.2.1 h.2.2
theorem zjV(m:List (List Str))(n w:Nat)(a b:Int)(ha:a=n)(hb:b=w)(h1:m.length≤1000000)(h2:∀ r∈m,r.length≤1000000)(h3:∀ r∈m,∀ s∈r,s.length≤1000000):zAW [.fs (zI m) m.length,.int .i64 a,.int .i64 b]=some (.ret (.bool (matB m n w))):=by
 subst ha hb;exact zo (pat:=fun p:List (List Str)×Nat×Nat=>[V.fs (zI p.1) p.1.length,.int .i64 p.2.1,.int .i64 p.2.2]) (fun x y h=>by
  obtain⟨x1,x2,x3⟩:=x;obtain⟨y1,y2,y3⟩:=y;simp only [Yu,V.fs.injEq,V.int.injEq,Yam,Yan]at h;obtain⟨⟨e1,_⟩,e2,e3⟩:=h;have e2':x2=y2:=by omega
  have e3':x3=y3:=by omega
  rw [zci e1,e2',e3']) (m,n,w) ⟨h1,h2,h3⟩
noncomputable def cRIncr:List V→Option PR:=zu (fun l:List Str=>[.fs (strs l) l.length]) (fun l=>l.length≤1000000∧∀ s∈l,s.length≤1000000000000000) fun l=>.ret (.bool (ziO l))
theorem znS(l:List Str)(hl:l.length≤1000000)(hs:∀ s∈l,s.length≤1000000000000000):cRIncr [.fs (strs l) l.length]=some (.ret (.bool (ziO l))):=
 zo (pat:=fun l:List Str=>[.fs (strs l) l.length]) (fun x y h=>by simp at h;exact zam h.1) l ⟨hl,hs⟩
theorem zAF:∀ args r,cRIncr args=some r→PCall prog 47 args r:=zn fun l h=>rincr_ok l h.1 h.2
theorem ziL(m:Mdl)(h:Fit m):PCall prog 23 [mdlV m] (.ret (.bool (vmB m))):=by
 have hΓ:=zf zAF (zf zvH zh);obtain⟨tl,wl,nl,el,ts,ws,nr,er,ns,es⟩:=h;obtain⟨T,W,N,E⟩:=m;dsimp only at tl wl nl el ts ws nr er ns es;have i1:=znS T (by omega) ts;have i2:=znS W (by omega) ws;have m1:=zjV N (T.length+1) (T.length+1) ((T.length:Int)+1) ((T.length:Int)+1) (by omega) (by omega) (by omega) nr ns;have m2:=zjV E T.length (W.length+1) (T.length:Int) ((W.length:Int)+1) rfl (by omega) (by omega) er es;have hv:vmB ⟨T,W,N,E⟩=(decide ((T.length:Int)≤40)&&decide ((W.length:Int)≤500)&&ziO T&&ziO W&&matB N (T.length+1) (T.length+1)&&matB E T.length (W.length+1)):=by have e1:decide ((T.length:Int)≤40)=decide (T.length≤40):=Ya3.2 (by omega);have e2:decide ((W.length:Int)≤500)=decide (W.length≤500):=Ya3.2 (by omega);simp only [vmB,e1,e2,ziO,YbL];cases decide (T.length≤40)<;>cases decide (W.length≤500)<;>cases incS T<;>cases incS W<;>cases T.all nameB<;>cases W.all nameB<;>simp
 rw [hv];refine PCall.walk (rs:=[.tmp 2]) [0,1,2] [] mixed (hΓ) (zg) call23 func23 rfl ntmps23 rfl (by kernel_rfl) (by simp) (by simp [push_cast,zcY]) ?_;simp (disch:=first|exact Zq|fail) only [go_sem,mdlV,i1,i2,m1,m2]
noncomputable def ΔV:FuncId→List V→Hp→Option AR:=zcR 105 (conD zl0) noΔ
theorem zl1:zba prog ΔV:=zay (zaZ zqK) zg
theorem zka(m:Mdl)(h:Fit m):PCall prog 64 [mdlV m] (.ret (.bool (vmB m))):=by
 have hΓ:=zf zBf (zf cName_ok (zf cRows_ok zh));obtain⟨tl,wl,nl,el,ts,ws,nr,er,ns,es⟩:=h;obtain⟨T,W,N,E⟩:=m;dsimp only at tl wl nl el ts ws nr er ns es;have m1:=zrX N (T.length+1) (T.length+1) ((T.length:Int)+1) ((T.length:Int)+1) (by omega) (by omega) (by omega) nr ns;have m2:=zrX E T.length (W.length+1) (T.length:Int) ((W.length:Int)+1) rfl (by omega) (by omega) er es;refine PCall.walk (rs:=[.tmp 2]) [0,1,2,3,4,6,30,36,37,38,39,44] [25] mixed (hΓ) (zl1) call64 func64 rfl ntmps64 rfl (by kernel_rfl) (by simp) (by simp [push_cast,zcY]) ?_;have hb:(decide (40<(T.length:Int))||decide (500<(W.length:Int))|| !incS T|| !incS W)= !(decide (T.length≤40)&&decide (W.length≤500)&&incS T&&incS W):=by
  have e1:decide (40<(T.length:Int))= !decide (T.length≤40):=by
   by_cases h:T.length≤40
   ·simp [h];omega
   ·simp [h];omega
  have e2:decide (500<(W.length:Int))= !decide (W.length≤500):=by
   by_cases h:W.length≤500
   ·simp [h];omega
   ·simp [h];omega
  rw [e1,e2];cases decide (T.length≤40)<;>cases decide (W.length≤500)<;>cases incS T<;>cases incS W<;>rfl
 have hv:vmB ⟨T,W,N,E⟩=((decide (T.length≤40)&&decide (W.length≤500)&&incS T&&incS W)&&((T++W).all nameB&&(matB N (T.length+1) (T.length+1)&&matB E T.length (W.length+1)))):=by simp only [vmB,Bool.and_assoc]
 rw [hv];simp (disch:=first|exact Zq|fail) only [go_sem,mdlV];rw [hb];cases h0:(decide (T.length≤40)&&decide (W.length≤500)&&incS T&&incS W)with
 |false=>simp (disch:=first|exact Zq|fail) only [go_sem]
 |true=>
  have hC:=zqL 0 T W [(0,.cells [.fs (strs T) T.length,.fs (strs W) W.length])] 1 rfl tl wl rfl;by_cases he:T.length+W.length=0
  ·rw [Yf he]at hC;have hC':ΔV 105 [.sl 0 0 2 1 (some 2)] ⟨[(0,.cells [.fs (strs T) T.length,.fs (strs W) W.length])],1⟩=_:=hC;obtain rfl:T=[]:=Yr (by omega);obtain rfl:W=[]:=Yr (by omega);have hC2:ΔV 105 [.sl 0 0 2 1 (some 2)] ⟨[(0,.cells [.fs [] 0,.fs [] 0])],1⟩=some ⟨True,.nilS,⟨[(0,.cells [.fs [] 0,.fs [] 0])],1⟩,[0],[]⟩:=hC';have k1:cRows [.fs (zI N) N.length,.int .i64 1,.int .i64 1]=some (.ret (.bool (matB N 1 1))):=m1;have k2:cRows [.fs (zI E) E.length,.int .i64 0,.int .i64 1]=some (.ret (.bool (matB E 0 1))):=m2;simp (disch:=first|exact Zq|fail) only [go_sem,hC2];refine AXs.rounds mixed hΓ zl1 [] (by kernel_rfl) ?_;simp (disch:=first|exact Zq|fail) only [go_sem];refine AXa.go mixed (hΓ) (zl1) (by kernel_rfl) ?_;simp (disch:=first|exact Zq|fail) only [go_sem,k1,k2]
  rw [Yd he]at hC;have hC':ΔV 105 [.sl 0 0 2 1 (some 2)] ⟨[(0,.cells [.fs (strs T) T.length,.fs (strs W) W.length])],1⟩=_:=hC;have hlen:(T++W).length=T.length+W.length:=Yi;simp (disch:=first|exact Zq|fail) only [go_sem,hC',hlen];have hpm:∀ x∈[V.fs (strs T) T.length,.fs (strs W) W.length,.fs (zI N) N.length,.fs (zI E) E.length],Pure x:=fun x h=>by
   simp only [YA,Y1,Ya0]at h;rcases h with rfl|rfl|rfl|rfl
   ·exact .fs (zM _)
   ·exact .fs (zM _)
   ·exact .fs (zaW _)
   ·exact .fs (zaW _)
  generalize hA:T++W=A at*;refine AXs.loop mixed (hΓ) (zl1) (fun i:Nat=>[(1,.fp [.fs (strs T) T.length,.fs (strs W) W.length,.fs (zI N) N.length,.fs (zI E) E.length]),(3,.int .i64 T.length),(4,.int .i64 W.length),(36,.sl 1 0 (T.length+W.length) 1 none),(37,.int .i64 (T.length+W.length:Nat)),(38,.int .i64 i)]) (fun _=>⟨[(1,.cells (strs A))],2⟩) (fun i=>i≤A.length∧∀ j,j<i→nameB (A.getD j [])=true) (fun i=>A.length - i) 0 (by kernel_rfl) ⟨Yk _,fun j hj=>by omega⟩ (Sub.of0 [] rfl rfl ?_ ?_) ?_
  ·simp only [go_sem];exact hpm
  ·simp only [go_sem]
  rintro i ⟨h1,h2⟩;simp (disch:=first|exact Zq|fail) only [go_sem];refine AXc.introP (fun h3=>?_) (fun h3=>?_)
  ·have hi:i<A.length:=by omega
   simp (disch:=first|exact Zq|fail) only [go_sem]
   (repeat refine sdC ?_);cases hn:nameB (A.getD i [])with
   |false=>
    simp (disch:=first|exact Zq|fail) only [go_sem];rw [zgC hi hn];rfl
   |true=>
    simp (disch:=first|exact Zq|fail) only [go_sem];refine zi (i+1) ⟨by omega,fun j hj=>?_⟩ (by omega) (Sub.of0 [] rfl rfl ?_ ?_)
    ·by_cases hji:j<i
     ·exact h2 j hji
     ·obtain rfl:j=i:=by omega
      exact hn
    ·simp only [go_sem];refine⟨hpm,?_⟩;simp
    ·simp only [go_sem]
  ·have hi:i=A.length:=by omega
   rw [zgB fun j hj=>h2 j (by omega)];simp (disch:=first|exact Zq|fail) only [go_sem];refine AXa.go mixed (hΓ) (zl1) (by kernel_rfl) ?_;simp (disch:=first|exact Zq|fail) only [go_sem,m1,m2]
noncomputable def cTVM:List V→Option PR:=zu (fun m:Mdl=>[mdlV m]) (fun m=>Fit m) fun m=>.ret (.bool (vmB m))
theorem zAi(m:Mdl)(h:Fit m):cTVM [mdlV m]=some (.ret (.bool (vmB m))):=zo (pat:=fun m:Mdl=>[mdlV m]) (fun x y h=>zeG (by simpa using h)) m h
theorem zAh:∀ args r,cTVM args=some r→PCall prog 64 args r:=zn fun m h=>zka m h
def zH(m:Mdl)(ws:List Str):List Nat:=ws.map (idxS m.words)
def slN(b:Nat)(l:List Nat):V:=if l=[]then .nilS else .sl b 0 l.length 1 none
def blkN(b:Nat)(l:List Nat)(r:List (Nat×Blk)):List (Nat×Blk):=if l=[]then r else(b,.cells (nats .i64 l))::r
theorem zoR(b:Nat):slN b []=.nilS:=rfl
theorem zlN(b:Nat)(r:List (Nat×Blk)):blkN b [] r=r:=rfl
theorem zq7(b:Nat){l:List Nat}(h:l≠[]):slN b l=.sl b 0 l.length 1 none:=Yd h
theorem zlO(b:Nat){l:List Nat}(h:l≠[])(r:List (Nat×Blk)):blkN b l r=(b,.cells (nats .i64 l))::r:=Yd h
theorem zjk(m:Mdl)(ws:List Str):(!vmB m||decide (200<(ws.length:Int))|| !ws.all nameB)= !(vmB m&&zb1 ws):=by
 have e:decide (200<(ws.length:Int))= !decide (ws.length≤200):=by
  by_cases h:ws.length≤200
  ·rw [YB h,Yy (by omega)];rfl
  ·rw [Yy h,YB (by omega)];rfl
 unfold zb1;rw [e];cases vmB m<;>cases ws.all nameB<;>cases decide (ws.length≤200)<;>rfl
theorem zp6(m:Mdl)(ws:List Str)(i:Nat)(h:i<ws.length):zH m (ws.take (i+1))=zH m (ws.take i)++[idxS m.words (ws.getD i [])]:=by unfold zH;rw [Ya8,Yb h,Ya,Yb h,Yau];rfl
theorem zvb(m:Mdl)(ws:List Str)(i:Nat)(h:i≤ws.length):(zH m (ws.take i)).length=i:=by unfold zH;simp;omega
theorem mdl4(T W:List Str)(N E:List (List Str)):∀ x∈[V.fs (strs T) T.length,.fs (strs W) W.length,.fs (zI N) N.length,.fs (zI E) E.length],Pure x:=fun x h=>by
 simp only [YA,Y1,Ya0]at h;rcases h with rfl|rfl|rfl|rfl
 ·exact .fs (zM _)
 ·exact .fs (zM _)
 ·exact .fs (zaW _)
 ·exact .fs (zaW _)
theorem mdl4P(T W:List Str)(N E:List (List Str)):(∀ x∈[V.fs (strs T) T.length,.fs (strs W) W.length,.fs (zI N) N.length,.fs (zI E) E.length],Pure x)↔True:=⟨fun _=>trivial,fun _=>mdl4 T W N E⟩
attribute [go_sem] mdl4P
theorem zwV(m:Mdl)(ws:List Str)(hf:Fit m)(hw:ws.length≤1000000)(hb:(vmB m&&zb1 ws)=false):NCall prog 33 [mdlV m,.fs (strs ws) ws.length] [] [] (.tup [.nilP,.int .i64 1]) ⟨[],0⟩:=by
 have hΓ:=zf zAh (zf zBj (zf zn1 zh));have p1:=zAi m hf;have sc:=zjk m ws;obtain⟨T,W,N,E⟩:=m;unfold mdlV at p1 ⊢;dsimp only at p1 ⊢;rw [hb]at sc;refine NCall.walk (rs:=[.tmp 4,.tmp 5]) [0,1,2,4,5,6,8,20,24,25,26,27] [25] 0 mixed (hΓ) (zg) call33 func33 rfl ntmps33 rfl (by kernel_rfl) (by simp) (by simp) (by simp) ?_;simp (disch:=first|exact Zq|fail) only [go_sem,p1];rw [sc];simp (disch:=first|exact Zq|fail) only [go_sem];exact⟨[(4,.nilP),(5,.int .i64 1)],Sub.of [] rfl (by simp only [go_sem]) (by simp only [go_sem]) (by decide) (fun b hb _=>absurd hb (Ybz b)),rfl⟩
theorem start_N(m:Mdl)(ws:List Str)(hf:Fit m)(hw:ws.length≤1000000)(hv:vmB m=true)(hb:zb1 ws=true):NCall prog 33 [mdlV m,.fs (strs ws) ws.length] [] [] (.tup [.ptr 0 0,.int .i64 0]) ⟨[(0,.cells (runC ⟨m,zH m ws,0⟩))],1⟩:=by
 have hΓ:=zf zAh (zf zBj (zf zn1 zh));have p1:=zAi m hf;have sc:(!vmB m||decide (200<(ws.length:Int))|| !ws.all nameB)=false:=by rw [zjk,hv,hb];rfl
 have hi:incS m.words=true:=by unfold vmB at hv;simp only [Yc]at hv;exact hv.2.2.2.1
 have hwl:=hf.wl;have ct:=zp6 m ws;have cl:=zvb m ws;obtain⟨T,W,N,E⟩:=m;unfold mdlV at p1 ⊢;dsimp only at p1 hi ct hwl ⊢;refine NCall.walk (rs:=[.tmp 4,.tmp 5]) [0,1,2,4,5,6,8,20,24,25,26,27] [25] 0 mixed (hΓ) (zg) call33 func33 rfl ntmps33 rfl (by kernel_rfl) (by simp) (by simp) (by simp) ?_;simp (disch:=first|exact Zq|fail) only [go_sem,p1];rw [sc];simp (disch:=first|exact Zq|fail) only [go_sem];obtain⟨M,hM⟩:∃ M,M=(⟨T,W,N,E⟩:Mdl):=⟨_,rfl⟩;rw [←hM]at ct cl ⊢;refine AXs.loop mixed (hΓ) (zg) (fun i:Nat=>[(2,.fp [.fs (strs T) T.length,.fs (strs W) W.length,.fs (zI N) N.length,.fs (zI E) E.length]),(6,.ptr 0 0),(24,.fs (strs ws) ws.length),(25,.int .i64 ws.length),(26,.int .i64 i)])
  (fun i=>⟨blkN 1 (zH M (ws.take i)) [(0,.cells [.fs (strs T) T.length,.fs (strs W) W.length,.fs (zI N) N.length,.fs (zI E) E.length,slN 1 (zH M (ws.take i)),.int .i64 0])],2⟩) (fun i=>i≤ws.length) (fun i=>ws.length - i) 0 (by kernel_rfl) (Yk _) (Sub.of0 [(0,0)] rfl rfl ?_ ?_) ?_
 ·simp only [go_sem]
 ·rw [Ybk,show zH M []=[]from rfl];simp only [go_sem,zlN,zoR]
 intro i h1;have cli:=cl i h1;simp (disch:=first|exact Zq|fail) only [go_sem];refine AXc.introP (fun h2=>?_) (fun h2=>?_)
 ·have hil:i<ws.length:=by omega
  have cti:=ct i hil;generalize zH M (ws.take i)=acc at cti cli ⊢;by_cases ne:acc=[]
  ·subst ne;have i0:i=0:=cli.symm;have nn:[idxS W (ws.getD i [])]≠[]:=by simp
   rw [YbK]at cti;simp (disch:=first|exact Zq|fail) only [go_sem,zoR,zlN]
   (repeat refine sdC ?_);simp (disch:=first|exact Zq|fail) only [go_sem];refine zi (i+1) (by omega) (by omega) ?_;rw [cti,zq7 1 nn,zlO 1 nn];refine Sub.of0 [(0,0),(1,3)] rfl rfl ?_ ?_
   ·simp only [go_sem];simp
   ·simp only [go_sem];rfl
  ·have nn:acc++[idxS W (ws.getD i [])]≠[]:=by simp
   have nl:(acc++[idxS W (ws.getD i [])]).length=acc.length+1:=by simp
   have tk:List.take acc.length acc=acc:=YQ;simp (disch:=first|exact Zq|fail) only [go_sem,zq7 1 ne,zlO 1 ne]
   (repeat refine sdC ?_);simp (disch:=first|exact Zq|fail) only [go_sem];refine zi (i+1) (by omega) (by omega) ?_;rw [cti,zq7 1 nn,zlO 1 nn,nl];refine Sub.of0 [(0,0),(1,3)] rfl rfl ?_ ?_
   ·simp only [go_sem];simp
   ·simp only [go_sem,tk]
 ·obtain rfl:i=ws.length:=by omega
  rw [YQ]at cli ⊢;subst hM;simp (disch:=first|exact Zq|fail) only [go_sem];by_cases ne:zH ⟨T,W,N,E⟩ ws=[]
  ·rw [ne,zoR,zlN];refine AXa.go mixed (hΓ) (zg) (by kernel_rfl) ?_;simp (disch:=first|exact Zq|fail) only [go_sem];refine⟨[(4,.ptr 0 0),(5,.int .i64 0)],Sub.of [(0,0)] rfl ?_ ?_ (by decide) (fun b hb _=>absurd hb (Ybz b)),rfl⟩
   ·simp only [go_sem]
   ·unfold runC;simp only [go_sem]
  ·rw [zq7 1 ne,zlO 1 ne];refine AXa.fz2 [1] [(0,runC ⟨⟨T,W,N,E⟩,zH ⟨T,W,N,E⟩ ws,0⟩)] (env':=[(6,.ptr 0 0)]) (n':=1) rfl rfl rfl ?_ ?_ ?_
   ·simp only [go_sem];exact .inl ⟨by simp,rfl⟩
   ·exact⟨⟨by decide,by simp,.inl (.same (.fs (zM _))),.inl (.same (.fs (zM _))),.inl (.same (.fs (zaW _))),.inl (.same (.fs (zaW _))),.inr (FrzF.slp (by simp) rfl rfl (by simp [nats]) (by rw [Y2,Yap];exact(Yj (by simp [nats])).symm) (zat _ _)),.inl (.same (.int _ _)),trivial⟩,trivial⟩
   change AXa _ _ _ _ _ _ ⟨[(0,.cells (runC ⟨⟨T,W,N,E⟩,zH ⟨T,W,N,E⟩ ws,0⟩))],1⟩;refine AXa.go mixed (hΓ) (zg) (by kernel_rfl) ?_;simp (disch:=first|exact Zq|fail) only [go_sem];refine⟨[(4,.ptr 0 0),(5,.int .i64 0)],Sub.of [(0,0)] rfl ?_ ?_ (by decide) (fun b hb _=>absurd hb (Ybz b)),rfl⟩
   ·simp only [go_sem]
   ·simp only [go_sem]
def zCg(args:List V)(H:Hp)(r:AR):Prop:=∃ m ws,args=[mdlV m,.fs (strs ws) ws.length]∧Fit m∧ws.length≤1000000∧(∀ b x,H.get b=some x→b<H.next)∧
 r=if (vmB m&&zb1 ws)=true then⟨True,.tup [.ptr H.next 0,.int .i64 0],⟨(H.next,.cells (runC ⟨m,zH m ws,0⟩))::H.bs,H.next+1⟩,[],[]⟩else⟨True,.tup [.nilP,.int .i64 1],H,[],[]⟩
theorem zwW:∀ args H r,zCg args H r→HCall prog 33 args H r:=by
 rintro args H r ⟨m,ws,rfl,hf,hw,hk,rfl⟩;have ha:∀ x∈[mdlV m,.fs (strs ws) ws.length],Pure x:=fun x hx=>by
  simp only [YA,Y1,Ya0]at hx;rcases hx with rfl|rfl
  ·exact zcY m
  ·exact .fs (zM _)
 cases h:(vmB m&&zb1 ws)with
 |true=>rw [Yf rfl];simp only [Yc]at h;exact HCall.freshP (start_N m ws hf hw h.1 h.2) (zde _) (.int _ _) ha H hk
 |false=>
  rw [Yd (by simp)];refine HCall.plain (zwV m ws hf hw h) (.tup fun x hx=>?_) ha H hk;simp only [YA,Y1,Ya0]at hx;rcases hx with rfl|rfl
  ·exact .nilP
  ·exact .int _ _
noncomputable def ΔR:FuncId→List V→Hp→Option AR:=zcR 33 (conD zCg) (zcR 34 (conD (MethR mEnds)) (zcR 36 (conD (MethW zyn)) noΔ))
theorem zcS:zba prog ΔR:=zay (zaZ zwW) (zay (zaZ (methR_ok mEnds fun _ r h=>ends_N r h)) (zay (zaZ (zrn zyn fun x r h=>times_N r x.1 x.2 h.1 h.2)) zg))
theorem ΔR_ends(b:Nat)(r:Run)(bs:List (Nat×Blk))(n:Nat)(h:r.m.tags.length≤1000000)(hb:zas bs b=some (.cells (runC r)))(hk:((keysB bs).all fun b=>decide (b<n))=true):
 ΔR 34 [.ptr b 0] ⟨bs,n⟩=some ⟨True,.int .i64 r.m.tags.length,⟨bs,n⟩,[b],[]⟩:=methR_eq mEnds (x:=()) (s:=r) h hb hk
theorem zv6(b:Nat)(r:Run)(p q:Str)(bs:List (Nat×Blk))(n:Nat)(lp:p.length≤1000000000)(lq:q.length≤1000000000)(hb:zas bs b=some (.cells (runC r)))(hk:((keysB bs).all fun b=>decide (b<n))=true):
 ΔR 36 [.ptr b 0,.str p,.str q] ⟨bs,n⟩=some ⟨True,.str (tm r.f p q).1,(⟨bs,n⟩:Hp).put b (.cells (runC ⟨r.m,r.cs,(tm r.f p q).2⟩)),[b],[b]⟩:=zro zyn (x:=(p,q)) (s:=r) ⟨lp,lq⟩ hb hk
end Go.Proofs

namespace Go.Tg
def lexLt:List Nat→List Nat→Bool
 |[],[]=>false
 |[],_::_=>true
 |_::_,[]=>false
 |x::a,y::b=>decide (x<y)||(decide (x=y)&&lexLt a b)
abbrev Cand:=Nat×List Nat
def better(x y:Cand):Cand:=if x.1<y.1∨(x.1=y.1∧y.1≠0∧lexLt y.2 x.2=true)then y else x
def stp(x:Cand)(w:Nat)(j:List Nat):Cand:=if x.1*w=0 then(0,[])else(x.1*w,x.2++j)
structure Best(S:Nat→List Nat→Prop)(x:Cand):Prop where
 z:x.1=0→x.2=[]
 i:x.1≠0→S x.1 x.2
 b:∀ w L,S w L→w≤x.1∧(w=x.1→x.1≠0→lexLt L x.2=false)
section
variable(n:Nat)(a:Nat→Nat→Nat→Nat)(b:Nat→Nat)
def src(t:Nat):List Nat:=if t=0 then [n]else List.range n
def fw:Nat→Nat→Cand
 |0,_=>(1,[])
 |t+1,j=>(src n t).foldl (fun v i=>better v (stp (fw t i) (a t i j) [j])) (0,[])
def fin(T:Nat):Cand:=(src n T).foldl (fun v i=>better v (stp (fw n a T i) (b i) [])) (0,[])
def lastOf(L:List Nat)(k:Nat):Nat:=if k=0 then n else L.getD (k - 1) 0
def pw(L:List Nat):Nat→Nat
 |0=>1
 |k+1=>pw L k*a k (lastOf n L k) (L.getD k 0)
def LL:Nat→List (List Nat)
 |0=>[[]]
 |t+1=>(LL t).flatMap fun l=>(List.range n).map fun j=>l++[j]
theorem LL_len:∀ t,∀ l∈LL n t,l.length=t
 |0,l,h=>by simp [LL]at h;simp [h]
 |t+1,l,h=>by simp only [LL,Ybv,Yab,Ycq]at h;obtain⟨l',h1,j,_,rfl⟩:=h;simp [LL_len t l' h1]
theorem LL_mem:∀ t,∀ l∈LL n t,∀ x∈l,x<n
 |0,l,h,x,hx=>by simp [LL]at h;simp [h]at hx
 |t+1,l,h,x,hx=>by
  simp only [LL,Ybv,Yab,Ycq]at h;obtain⟨l',h1,j,hj,rfl⟩:=h;rcases Yaf.1 hx with hx|hx
  ·exact LL_mem t l' h1 x hx
  ·rw [Yah.1 hx];exact hj
def all(w:List Nat→Nat)(l:List (List Nat)):Cand:=l.foldl (fun m L=>if m.1<w L then(w L,L)else m) (0,[])
end
end Go.Tg

namespace Go.Proofs
open Go.Ab Go.Cnt Go.Pl Go.Tg
def nx(m:Mdl)(i j:Nat):Str:=(nthR m.next i).getD j []
def em(m:Mdl)(j c:Nat):Str:=(nthR m.emit j).getD c []
section
variable {β:Type}(st:Int→β→List Nat→Str→β×Int)(pl:Int→β→β→β×Int)(m:Mdl)(none first:β)
def one(f:Int)(v u:β)(j:List Nat)(a b:Str):β×Int:=pl (st (tm f a b).2 u j (tm f a b).1).2 v (st (tm f a b).2 u j (tm f a b).1).1
end
theorem one_zero:Is [48] 0 1:=Is.dec (n:=0) (by decide)
theorem zda {y:Nat}(h:0<y):Is [48] 0 y:=one_zero.eq h (by simp)
theorem is_one:Is [49] 1 1:=Is.dec (n:=1) (by decide)
structure Nums(m:Mdl)(cs:List Nat)(N:Nat→Nat→Nat→Nat)(E:Nat→Nat→Nat)(b:Nat→Nat)(DN DE:Nat→Nat)(Df:Nat):Prop where
 n:∀ t i j,t<cs.length→i∈src m.tags.length t→j<m.tags.length→Is (nx m i j) (N t i j) (DN t)∧N t i j≤DN t
 e:∀ t j,t<cs.length→j<m.tags.length→Is (em m j (cs.getD t 0)) (E t j) (DE t)∧E t j≤DE t
 f:∀ i,i∈src m.tags.length cs.length→Is (nx m i m.tags.length) (b i) Df∧b i≤Df
 pn:∀ t,0<DN t
 pe:∀ t,0<DE t
 pf:0<Df
section
variable {m:Mdl}{cs:List Nat}{N:Nat→Nat→Nat→Nat}{E:Nat→Nat→Nat}{b:Nat→Nat}{DN DE:Nat→Nat}{Df:Nat}
end
end Go.Proofs

namespace Go.Proofs
open Go.Ab Go.Cnt Go.Pl Go.Tg
def zkG(m:Mdl)(cs js:List Nat)(k:Nat):Str×Int:=pmul (nx m (lastOf m.tags.length js k) (js.getD k 0)) (em m (js.getD k 0) (cs.getD k 0))
def prR(m:Mdl)(cs js:List Nat):Nat→Str×Int
 |0=>([49],0)
 |k+1=>if (prR m cs js k).2≠0 then([],(prR m cs js k).2)else if (zkG m cs js k).2≠0 then([],(zkG m cs js k).2)else pmul (prR m cs js k).1 (zkG m cs js k).1
def prob(m:Mdl)(cs js:List Nat):Str×Int:=if (prR m cs js cs.length).2≠0 then([],(prR m cs js cs.length).2)else pmul (prR m cs js cs.length).1 (nx m (lastOf m.tags.length js cs.length) m.tags.length)
section
variable {m:Mdl}{cs:List Nat}{N:Nat→Nat→Nat→Nat}{E:Nat→Nat→Nat}{b:Nat→Nat}{DN DE:Nat→Nat}{Df:Nat}
theorem getD_lt {L:List Nat}{T k:Nat}(hL:L∈LL m.tags.length T)(hk:k<T):L.getD k 0<m.tags.length:=by have hl:=LL_len _ _ _ hL;refine LL_mem _ _ _ hL _ ?_;rw [Ya,Yb (by omega)];exact YZ _
end
def zeN(l:List (List Str)):Bool:=l.all fun r=>r.all fun s=>decide (s.countP (· ≠47)≤4)
def zfm(m:Mdl)(ws:List Str):Bool:=decide (m.tags.length≤3)&&decide (ws.length≤4)&&(zeN m.next&&zeN m.emit)
theorem zla {M:List (List Str)}{r w i j:Nat}(h:matB M r w=true)(hi:i<r)(hj:j<w):p01 ((nthR M i).getD j [])=true∧(zeN M=true→((nthR M i).getD j []).countP (· ≠47)≤4):=by unfold matB at h;simp only [Yc,Yh,Yg]at h;have hm:nthR M i∈M:=rowR.nth_mem (by omega);have h2:=h.2 _ hm;unfold zcu at h2;simp only [Yc,Yh,Yg]at h2;have hx:(nthR M i).getD j []∈nthR M i:=zbr (by omega);refine⟨h2.2 _ hx,fun hs=>?_⟩;unfold zeN at hs;simp only [Yg,Yh]at hs;exact hs _ hm _ hx
theorem zhl {m:Mdl}(h:vmB m=true):matB m.next (m.tags.length+1) (m.tags.length+1)=true∧matB m.emit m.tags.length (m.words.length+1)=true:=by unfold vmB at h;simp only [Yc]at h;exact⟨h.2.2.2.2.2.1,h.2.2.2.2.2.2⟩
end Go.Proofs

namespace Go.Proofs
open Go.Ab Go.Cnt Go.Pl Go.Tg
theorem zim(m:Mdl)(ws:List Str)(i:Nat)(h:i<ws.length):(zH m ws).getD i 0=idxS m.words (ws.getD i []):=by unfold zH;rw [Ya,Ya,YX,Yb h];rfl
theorem zm4 {n:Nat}{js:List Nat}{k:Nat}(h:∀ j,j<k→js.getD j 0<n):lastOf n js k≤n:=by
 unfold lastOf;split
 ·exact Ye _
 ·exact YbA (h _ (by omega))
theorem zpv(n:Nat)(js:List Nat)(k:Nat):lastOf n js (k+1)=js.getD k 0:=by unfold lastOf;rw [Yd (by omega)];rfl
theorem zqT {m:Mdl}(hv:vmB m=true):m.next.length=m.tags.length+1∧(∀ i,i≤m.tags.length→(nthR m.next i).length=m.tags.length+1)∧m.emit.length=m.tags.length∧(∀ i,i<m.tags.length→(nthR m.emit i).length=m.words.length+1)∧incS m.tags=true∧incS m.words=true:=by
 obtain⟨h1,h2⟩:=zhl hv;unfold matB at h1 h2;simp only [Yc,Yh,Yg]at h1 h2;unfold vmB at hv;simp only [Yc]at hv;refine⟨h1.1,fun i hi=>?_,h2.1,fun i hi=>?_,hv.2.2.1,hv.2.2.2.1⟩
 ·have:=h1.2 _ (rowR.nth_mem (show i<m.next.length by omega));unfold zcu at this;simp only [Yc,Yh]at this;exact this.1
 ·have:=h2.2 _ (rowR.nth_mem (show i<m.emit.length by omega));unfold zcu at this;simp only [Yc,Yh]at this;exact this.1
theorem zcV(M:List (List Str))(i:Nat)(h:i<M.length):nthV (zI M) i=.fs (strs (nthR M i)) (nthR M i).length:=by have:=zkz M i h;rw [←zkV,this];rfl
end Go.Proofs
