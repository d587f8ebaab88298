/- A run: a model with the columns of its words; its methods; start. -/
import Derived.Test.YthbimeikbkjnkaaGreatDoorCAbFreeze3
import Derived.Test.YthbimeikbkjnkaaGreatDoorCQRat6
set_option linter.all false
set_option maxHeartbeats 16000000
set_option maxRecDepth 100000
namespace Go.Proofs
open Tryz Go.Ab Go.Cnt Go.Pl
theorem badW_ok(s:Str):PCall prog 66 [.str s] (.ret (.bool (!nameB s))):=by
 refine PCall.wD (rs:=[.tmp 2]) [0,2] [] mixed (zh) (zg) call66 func66 rfl ntmps66 rfl ?_;simp only [go_sem];have e:decide (40<(s.length:Int))= !decide (s.length≤40):=by
  by_cases h:s.length≤40
  ·rw [decide_eq_true h,decide_eq_false (by omega)];rfl
  ·rw [decide_eq_false h,decide_eq_true (by omega)];rfl
 unfold nameB;rw [e];cases s<;>simp
noncomputable def cBadW:List V→Option PR:=zF (fun a:Str=>[.str a]) (fun _=>True) fun a=>.ret (.bool (!nameB a))
@[go_sem] theorem cBadW_eq(a:Str):cBadW [.str a]=some (.ret (.bool (!nameB a))):=zo (pat:=fun a:Str=>[.str a]) (fun x y h=>by simpa using h) a trivial
theorem cBadW_ok:∀ args r,cBadW args=some r→PCall prog 66 args r:=zn fun a _=>badW_ok a
def fbS:List Str→Nat
 |[]=>0
 |a::l=>if nameB a=false then 0 else fbS l+1
theorem fbS_eq:∀ {l:List Str} {i:Nat},i<l.length→nameB (l.getD i [])=false→(∀ j,j<i→nameB (l.getD j [])=true)→fbS l=i
 |[],_,h,_,_=>by simp at h
 |a::l,0,_,h,_=>by
  have:nameB a=false:=by simpa using h
  unfold fbS;rw [if_pos this]
 |a::l,i+1,h,h1,h2=>by
  have h3:nameB a=true:=by simpa using h2 0 (by omega)
  unfold fbS;rw [if_neg (by rw [h3];simp),fbS_eq (l:=l) (i:=i) (by simpa using h) (by simpa using h1) (fun j hj=>by simpa using h2 (j+1) (by omega))]
def fbI(l:List Str):Int:=if l.all nameB=true then -1 else fbS l
theorem ixf_ok(l:List Str)(hl:l.length≤1000000):PCall prog 108 [.fs (strs l) l.length,.fn 66 []] (.ret (.int .i64 (fbI l))):=by
 have hΓ:=zf cBadW_ok zh;refine PCall.wD (rs:=[.tmp 4]) [0,1,4,5,7,8,9,16] [] mixed (hΓ) (zg) call108 func108 rfl ntmps108 rfl ?_;simp only [go_sem];refine AXs.loop mixed (hΓ) (zg) (fun i:Nat=>[(0,.fs (strs l) l.length),(1,.fn 66 []),(7,.int .i64 l.length),(8,.int .i64 i)]) (fun _=>⟨[],0⟩) (fun i=>i≤l.length∧∀ j,j<i→nameB (l.getD j [])=true) (fun i=>l.length - i) 0 (by kernel_rfl) ⟨Nat.zero_le _,fun j hj=>by omega⟩ (Sub.of0 [] rfl rfl ?_ ?_) ?_
 ·simp only [go_sem]
 ·simp only [go_sem]
 rintro i ⟨h1,h2⟩;simp only [go_sem];refine AXc.introP (fun h3=>?_) (fun h3=>?_)
 ·have hi:i<l.length:=by omega
  simp (disch:=first|assumption|(push_cast<;>omega)|omega) only [go_sem]
  (repeat refine sdC ?_);cases hn:nameB (l.getD i [])with
  |false=>
   simp (disch:=first|assumption|(push_cast<;>omega)|omega) only [go_sem];have e:fbI l=i:=by unfold fbI;rw [zrI hi hn,if_neg (by simp),fbS_eq hi hn h2]
   rw [e]
  |true=>
   simp (disch:=first|assumption|(push_cast<;>omega)|omega) only [go_sem];refine zk (i+1) ⟨by omega,fun j hj=>?_⟩ (by omega) (Sub.of0 [] rfl rfl ?_ ?_)
   ·by_cases hji:j<i
    ·exact h2 j hji
    ·obtain rfl:j=i:=by omega
     exact hn
   ·simp only [go_sem];simp
   ·simp only [go_sem]
 ·obtain rfl:i=l.length:=by omega
  have e:fbI l= -1:=by unfold fbI;rw [zrH h2,if_pos rfl]
  rw [e];simp only [go_sem];refine AXa.go mixed (hΓ) (zg) (by kernel_rfl) ?_;simp only [go_sem]
noncomputable def cIxf:List V→Option PR:=zF (fun l:List Str=>[.fs (strs l) l.length,.fn 66 []]) (fun l=>l.length≤1000000) fun l=>.ret (.int .i64 (fbI l))
@[go_sem] theorem cIxf_eq(l:List Str)(hl:l.length≤1000000):cIxf [.fs (strs l) l.length,.fn 66 []]=some (.ret (.int .i64 (fbI l))):=
 zo (pat:=fun l:List Str=>[.fs (strs l) l.length,.fn 66 []]) (fun x y h=>by simp at h;exact zaN h.1) l hl
theorem cIxf_ok:∀ args r,cIxf args=some r→PCall prog 108 args r:=zn fun l h=>ixf_ok l h
theorem cof_ok(l:List Str)(hl:l.length≤1000000):PCall prog 65 [.fs (strs l) l.length,.fn 66 []] (.ret (.bool (!l.all nameB))):=by
 refine PCall.wD (rs:=[.tmp 4]) [0,1,4] [] mixed (zf cIxf_ok zh) (zg) call65 func65 rfl ntmps65 rfl ?_;have e:decide (0≤fbI l)= !l.all nameB:=by
  unfold fbI;cases h:l.all nameB with
  |false=>rw [if_neg (by simp)];exact decide_eq_true (by omega)
  |true=>rw [if_pos rfl];exact decide_eq_false (by omega)
 simp (disch:=first|assumption|(push_cast<;>omega)|omega) only [go_sem];rw [e]
noncomputable def cCof:List V→Option PR:=zF (fun l:List Str=>[.fs (strs l) l.length,.fn 66 []]) (fun l=>l.length≤1000000) fun l=>.ret (.bool (!l.all nameB))
@[go_sem] theorem cCof_eq(l:List Str)(hl:l.length≤1000000):cCof [.fs (strs l) l.length,.fn 66 []]=some (.ret (.bool (!l.all nameB))):=
 zo (pat:=fun l:List Str=>[.fs (strs l) l.length,.fn 66 []]) (fun x y h=>by simp at h;exact zaN h.1) l hl
theorem zAb:∀ args r,cCof args=some r→PCall prog 65 args r:=zn fun l h=>cof_ok l h
def zci(l:List Str):Bool:=l.all nameB&&decide (l.length≤200)
structure Run where
 m:Mdl
 cs:List Nat
 f:Int
def runC(r:Run):List V:=[.fs (strs r.m.tags) r.m.tags.length,.fs (strs r.m.words) r.m.words.length,.fs (zu r.m.next) r.m.next.length,.fs (zu r.m.emit) r.m.emit.length,.fs (nats .i64 r.cs) r.cs.length,.int .i64 r.f]
theorem zcI {a b:Run}(h:runC a=runC b):a=b:=by obtain⟨⟨a1,a2,a3,a4⟩,a5,a6⟩:=a;obtain⟨⟨b1,b2,b3,b4⟩,b5,b6⟩:=b;simp only [runC,List.cons.injEq,V.fs.injEq,V.int.injEq,and_true,true_and]at h;obtain⟨⟨h1,_⟩,⟨h2,_⟩,⟨h3,_⟩,⟨h4,_⟩,⟨h5,_⟩,h6⟩:=h;rw [zaN h1,zaN h2,zc2 h3,zc2 h4,zan h5,h6]
theorem za3(r:Run):∀ x∈runC r,Pure x:=fun x h=>by
 simp only [runC,List.mem_cons,List.not_mem_nil,or_false]at h;rcases h with rfl|rfl|rfl|rfl|rfl|rfl
 ·exact .fs (zae _)
 ·exact .fs (zae _)
 ·exact .fs (zaP _)
 ·exact .fs (zaP _)
 ·exact .fs (zY _ _)
 ·exact .int _ _
def zkM:Meth Unit Run where
 pat _:=[]
 cel:=runC
 cond _ r:=r.m.tags.length≤1000000
 val _ r:=.int .i64 r.m.tags.length
 upd _ r:=r
 patI _ _ _:=rfl
 celI _ _:=zcI
 patP _ v h:=by simp at h
 celP:=za3
 valP _ _:=.int _ _
def zxe:Meth (Str×Int) Run where
 pat x:=[.str x.1,.int .i64 x.2]
 cel:=runC
 cond _ _:=True
 val x r:=.str (kn r.f x).1
 upd x r:=⟨r.m,r.cs,(kn r.f x).2⟩
 patI x y h:=by simp at h;exact Prod.ext h.1 h.2
 celI _ _:=zcI
 patP x v h:=by
  simp only [List.mem_cons,List.not_mem_nil,or_false]at h;rcases h with rfl|rfl
  ·exact .str _
  ·exact .int _ _
 celP:=za3
 valP _ _:=.str _
def zdG:Meth (Str×Str) Run where
 pat x:=[.str x.1,.str x.2]
 cel:=runC
 cond x _:=x.1.length≤1000000000∧x.2.length≤1000000000
 val x r:=.str (tm r.f x.1 x.2).1
 upd x r:=⟨r.m,r.cs,(tm r.f x.1 x.2).2⟩
 patI x y h:=by simp at h;exact Prod.ext h.1 h.2
 celI _ _:=zcI
 patP x v h:=by
  simp only [List.mem_cons,List.not_mem_nil,or_false]at h;rcases h with rfl|rfl
  ·exact .str _
  ·exact .str _
 celP:=za3
 valP _ _:=.str _
def mPlus:Meth (Str×Str) Run where
 pat x:=[.str x.1,.str x.2]
 cel:=runC
 cond x _:=x.1.length≤1000000000∧x.2.length≤1000000000
 val x r:=.str (ps r.f x.1 x.2).1
 upd x r:=⟨r.m,r.cs,(ps r.f x.1 x.2).2⟩
 patI x y h:=by simp at h;exact Prod.ext h.1 h.2
 celI _ _:=zcI
 patP x v h:=by
  simp only [List.mem_cons,List.not_mem_nil,or_false]at h;rcases h with rfl|rfl
  ·exact .str _
  ·exact .str _
 celP:=za3
 valP _ _:=.str _
theorem zyk(r:Run)(h:r.m.tags.length≤1000000):NCall prog 34 [.ptr 0 0] [.cells (runC r)] [] (.int .i64 r.m.tags.length) ⟨[(0,.cells (runC r))],1⟩:=by
 refine NCall.walk (rs:=[.tmp 2]) [0,2] [] 1 mixed (zh) (zg) call34 func34 rfl ntmps34 rfl (by kernel_rfl) (by simp) (by simp) (by simp) ?_;obtain⟨⟨T,W,N,E⟩,cs,f⟩:=r;unfold runC;dsimp only at h ⊢;simp only [go_sem];refine⟨[(2,.int .i64 T.length)],Sub.of [] rfl ?_ ?_ (by decide) (fun b hb hw=>?_),rfl⟩
 ·simp only [go_sem]
 ·simp only [go_sem]
 ·obtain rfl:b=0:=Nat.lt_one_iff.1 hb;rfl
theorem known_N(r:Run)(p:Str)(e:Int):NCall prog 68 [.ptr 0 0,.str p,.int .i64 e] [.cells (runC r)] [0] (.str (kn r.f (p,e)).1) ⟨[(0,.cells (runC ⟨r.m,r.cs,(kn r.f (p,e)).2⟩))],1⟩:=by
 refine NCall.walkW (rs:=[.tmp 6]) [0,1,2,6,8,13] [] 1 [0] mixed (zh) (zg) call68 func68 rfl ntmps68 rfl (by kernel_rfl) (by simp) (by simp) (by simp) (by simp) ?_;obtain⟨⟨T,W,N,E⟩,cs,f⟩:=r;unfold runC kn;dsimp only;simp only [go_sem];refine AXc.introN (fun h1=>?_) (fun h1=>?_)
 ·rw [if_pos h1];simp only [go_sem];refine AXc.introP (fun h2=>?_) (fun h2=>?_)
  ·rw [if_pos h2];simp (disch:=first|assumption|(push_cast<;>omega)|omega) only [go_sem];refine⟨rfl,[(6,.str [48])],Sub.oE [] rfl ?_ ?_,rfl⟩
   ·simp only [go_sem]
   ·simp only [go_sem]
  ·rw [if_neg h2];simp (disch:=first|assumption|(push_cast<;>omega)|omega) only [go_sem];refine⟨[(6,.str [48])],Sub.oE [] rfl ?_ ?_,rfl⟩
   ·simp only [go_sem]
   ·simp only [go_sem]
 ·rw [if_neg (fun h=>h h1)];simp only [go_sem];refine⟨[(6,.str p)],Sub.oE [] rfl ?_ ?_,rfl⟩
  ·simp only [go_sem]
  ·simp only [go_sem]
noncomputable def ΔK:FuncId→List V→Hp→Option AR:=zbJ 68 (conD (znN zxe)) noΔ
theorem ΔK_ok:zaT prog ΔK:=zV (zaq (zel zxe fun x r _=>known_N r x.1 x.2)) zg
theorem ΔK_at(r:Run)(x:Str×Int):ΔK 68 [.ptr 0 0,.str x.1,.int .i64 x.2] ⟨[(0,.cells (runC r))],1⟩=some ⟨True,.str (kn r.f x).1,⟨[(0,.cells (runC ⟨r.m,r.cs,(kn r.f x).2⟩))],1⟩,[0],[0]⟩:=
 zem zxe (b:=0) (x:=x) (s:=r) (bs:=[(0,.cells (runC r))]) (n:=1) trivial rfl rfl
theorem runC_rn {π:Nat→Nat}{N:Nat→Prop}(r:Run):LRel (Rn π N) (runC r) (runC r)↔True:=⟨fun _=>trivial,fun _=>zA (za3 r)⟩
attribute [go_sem] runC_rn
theorem zjT(r:Run)(p q:Str)(lp:p.length≤1000000000)(lq:q.length≤1000000000):NCall prog 36 [.ptr 0 0,.str p,.str q] [.cells (runC r)] [0] (.str (tm r.f p q).1) ⟨[(0,.cells (runC ⟨r.m,r.cs,(tm r.f p q).2⟩))],1⟩:=by
 have hΓ:=zf zur zh;have r1:=zzs p q lp lq;have r2:=ΔK_at r (pmul p q);have hv:tm r.f p q=kn r.f (pmul p q):=rfl;rw [hv];refine NCall.walkW (rs:=[.tmp 6]) [0,1,2,6] [] 1 [0] mixed (hΓ) (ΔK_ok) call36 func36 rfl ntmps36 rfl (by kernel_rfl) (by simp) (by simp) (by simp) (by simp) ?_;simp (disch:=first|assumption|(push_cast<;>omega)|omega) only [go_sem,r1,r2];refine⟨rfl,[(6,.str (kn r.f (pmul p q)).1)],Sub.oE [] rfl ?_ ?_,rfl⟩
 ·simp only [go_sem]
 ·simp only [go_sem]
theorem plus_N(r:Run)(p q:Str)(lp:p.length≤1000000000)(lq:q.length≤1000000000):NCall prog 43 [.ptr 0 0,.str p,.str q] [.cells (runC r)] [0] (.str (ps r.f p q).1) ⟨[(0,.cells (runC ⟨r.m,r.cs,(ps r.f p q).2⟩))],1⟩:=by
 have hΓ:=zf zuu zh;have r1:=zzu p q lp lq;have r2:=ΔK_at r (padd p q);have hv:ps r.f p q=kn r.f (padd p q):=rfl;rw [hv];refine NCall.walkW (rs:=[.tmp 6]) [0,1,2,6] [] 1 [0] mixed (hΓ) (ΔK_ok) call43 func43 rfl ntmps43 rfl (by kernel_rfl) (by simp) (by simp) (by simp) (by simp) ?_;simp (disch:=first|assumption|(push_cast<;>omega)|omega) only [go_sem,r1,r2];refine⟨rfl,[(6,.str (kn r.f (padd p q)).1)],Sub.oE [] rfl ?_ ?_,rfl⟩
 ·simp only [go_sem]
 ·simp only [go_sem]
end Go.Proofs

namespace Go.Proofs
open Tryz Go.Ab Go.Cnt
theorem Tryz.infoS:zgo prog 9=some (1,16,true):=by kernel_rfl
attribute [go_sem] Tryz.infoS Int.sub_zero
theorem zy7:zi prog 144:=fun a w=>by kernel_rfl
theorem zzb:zi prog 105:=fun a w=>by kernel_rfl
theorem zlJ:strs []=[]:=rfl
theorem strs_app(a b:List Str):strs (a++b)=strs a++strs b:=by simp [strs]
theorem zhv(l:List Str):(strs l).all V.one=true:=List.all_eq_true.2 fun x h=>by simp only [strs,List.mem_map]at h;obtain⟨s,_,rfl⟩:=h;rfl
def zie(n:Nat):List V:=List.replicate n (V.str [])
theorem zA3(n:Nat):zeQ (some (.string ⟨([]:List UInt8).toArray⟩)) n=zie n:=rfl
theorem zid(n:Nat):∀ x∈zie n,Pure x:=by intro x hx;unfold zie at hx;rw [List.eq_of_mem_replicate hx];exact .str _
theorem zA7:NCall prog 144 [.nilS,.int .i64 0] [] [] .nilS ⟨[],0⟩:=by
 refine NCall.walk (rs:=[.tmp 4]) [0,1,4,6,16] [] 0 mixed (zh) (zg) zy7 func144 rfl ntmps144 rfl (by kernel_rfl) (by simp) (by simp) (by simp) ?_;simp only [go_sem];refine⟨[(4,.nilS)],Sub.of0 [] rfl rfl ?_ ?_,rfl⟩
 ·simp only [go_sem]
 ·simp only [go_sem]
theorem Sgrow_ok(n:Nat)(h0:0<n)(h1:n≤1000000):NCall prog 144 [.nilS,.int .i64 n] [] [] (.sl 0 0 0 1 none) ⟨[(0,.cells (zie n))],1⟩:=by
 have h0':0<(n:Int):=by omega
 have h1':(n:Int)≤1000000:=by omega
 have h2':¬(n:Int)<0:=by omega
 refine NCall.walk (rs:=[.tmp 4]) [0,1,4,6,16] [] 0 mixed (zh) (zg) zy7 func144 rfl ntmps144 rfl (by kernel_rfl) (by simp) (by simp) (by simp) ?_;simp (disch:=first|assumption|(push_cast<;>omega)|omega) only [go_sem,h0',h1',h2',decide_true,decide_false,zA3];refine⟨by omega,[(4,.sl 0 0 0 1 none)],Sub.of0 [] rfl rfl ?_ ?_,rfl⟩
 ·simp only [go_sem]
 ·simp only [go_sem];exact zA (zid n)
theorem zgf(k:IntKind)(n:Int):∀ x∈[V.nilS,V.int k n],Pure x:=by
 intro x hx;simp only [List.mem_cons,List.not_mem_nil,or_false]at hx;rcases hx with rfl|rfl
 ·exact .nilS
 ·exact .int _ _
def zgg(args:List V)(H:Hp)(r:AR):Prop:=
 ∃ n:Nat,args=[.nilS,.int .i64 n]∧n≤1000000∧(∀ b x,H.get b=some x→b<H.next)∧
  r=if n=0 then⟨True,.nilS,H,[],[]⟩else⟨True,.sl H.next 0 0 1 none,⟨(H.next,.cells (zie n))::H.bs,H.next+1⟩,[],[]⟩
theorem zA5:∀ args H r,zgg args H r→HCall prog 144 args H r:=by
 rintro args H r ⟨n,rfl,hn,hk,rfl⟩;by_cases h0:n=0
 ·subst h0;rw [if_pos rfl];exact HCall.none zA7 .nilS [] _ H rfl .nil (zA (zgf _ _)) (fun i x hx=>by simp at hx) (fun i x hx=>by simp at hx) hk
 ·rw [if_neg h0];exact HCall.fresh (F:=[]) (Sgrow_ok n (by omega) hn) (zid n) [] _ H rfl .nil (zA (zgf _ _)) (fun i x hx=>by simp at hx) (fun i x hx=>by simp at hx) hk
theorem zif {args:List V}{H:Hp}{r r':AR}(h:zgg args H r)(h':zgg args H r'):r'=r:=by
 obtain⟨n,rfl,_,_,rfl⟩:=h;obtain⟨m,he,_,_,rfl⟩:=h';simp only [List.cons.injEq,V.int.injEq,and_true,true_and]at he;have:n=m:=by omega
 subst this;rfl
theorem zA6(n:Nat)(z:Int)(bs:List (Nat×Blk))(nx:Nat)(hz:z=n)(h0:0<n)(hn:n≤1000000)(hk:((keysB bs).all fun b=>decide (b<nx))=true):
 conD zgg [.nilS,.int .i64 z] ⟨bs,nx⟩=some ⟨True,.sl nx 0 0 1 none,⟨(nx,.cells (zie n))::bs,nx+1⟩,[],[]⟩:=by
 subst hz
 have h:zgg [.nilS,.int .i64 n] ⟨bs,nx⟩ ⟨True,.sl nx 0 0 1 none,⟨(nx,.cells (zie n))::bs,nx+1⟩,[],[]⟩:=⟨n,rfl,hn,zbp hk,by rw [if_neg (by omega)]⟩
 exact zaD h fun r' h'=>zif h h'
theorem zuV(bs:List (Nat×Blk))(nx:Nat)(hk:((keysB bs).all fun b=>decide (b<nx))=true):conD zgg [.nilS,.int .i64 0] ⟨bs,nx⟩=some ⟨True,.nilS,⟨bs,nx⟩,[],[]⟩:=by have h:zgg [.nilS,.int .i64 0] ⟨bs,nx⟩ ⟨True,.nilS,⟨bs,nx⟩,[],[]⟩:=⟨0,rfl,by omega,zbp hk,by rw [if_pos rfl]⟩;exact zaD h fun r' h'=>zif h h'
noncomputable def ΔSg:FuncId→List V→Hp→Option AR:=zbJ 144 (conD zgg) noΔ
theorem zbK:zaT prog ΔSg:=zV (zaq zA5) zg
theorem zuW(a c:List Str)(ha:a.length≤100000)(hc:c.length≤100000)(hne:0<a.length+c.length):NCall prog 105 [.sl 0 0 2 1 (some 2)] [.cells [.fs (strs a) a.length,.fs (strs c) c.length]] []
 (.sl 1 0 (a++c).length 1 none) ⟨[(1,.cells (strs (a++c))),(0,.cells [.fs (strs a) a.length,.fs (strs c) c.length])],2⟩:=by
 refine NCall.walk (rs:=[.tmp 2]) [0,2,3,5,6,8,9,10,11,12,20,25,26,27,28] [] 1 mixed (zh) (zbK) zzb func105 rfl ntmps105 rfl (by kernel_rfl) (by simp) (by simp) (by simp) ?_
 simp only [go_sem]
 have k1:¬((a.length:Int)<0):=by omega
 have k2:¬((a.length:Int)+(c.length:Int)<0):=by omega
 refine AXs.rounds mixed zh zbK [(),()] (by kernel_rfl) ?_
 simp (disch:=first|assumption|(push_cast<;>omega)|omega) only [go_sem,k1,k2,decide_false,Int.zero_add]
 refine AXa.go mixed (zh) (zbK) (by kernel_rfl) ?_
 have hg:=zA6 (a.length+c.length) ((a.length:Int)+(c.length:Int)) [(0,.cells [.fs (strs a) a.length,.fs (strs c) c.length])] 1 (by omega) hne (by omega) (by rfl)
 have hg':ΔSg 144 [.nilS,.int .i64 ((a.length:Int)+(c.length:Int))] ⟨[(0,.cells [.fs (strs a) a.length,.fs (strs c) c.length])],1⟩=_:=hg
 simp (disch:=first|assumption|(push_cast<;>omega)|omega) only [go_sem,hg']
 clear hg hg'
 rcases Nat.eq_zero_or_pos a.length with ha0|ha0
 ·obtain rfl:a=[]:=List.eq_nil_of_length_eq_zero ha0
  have c1:¬c.length=0:=by simp at hne;omega
  refine AXs.rounds mixed zh zbK [(),()] (by kernel_rfl) ?_
  simp (disch:=first|assumption|(push_cast<;>omega)|omega) only [go_sem,zlJ,zhv,c1]
  refine⟨by omega,?_⟩
  refine AXa.go mixed (zh) (zbK) (by kernel_rfl) ?_
  simp only [go_sem]
  refine⟨[(2,.sl 1 0 c.length 1 none)],Sub.of [(1,2)] rfl ?_ ?_ (Nat.le_succ _) (fun b hb _=>?_),?_⟩
  ·simp only [go_sem]
  ·simp only [go_sem]
   exact fun x hx=>(nomatch hx)
  ·obtain rfl:b=0:=Nat.lt_one_iff.1 hb
   rfl
  ·rfl
 ·have a1:¬a.length=0:=by omega
  rcases Nat.eq_zero_or_pos c.length with hc0|hc0
  ·obtain rfl:c=[]:=List.eq_nil_of_length_eq_zero hc0
   refine AXs.rounds mixed zh zbK [(),()] (by kernel_rfl) ?_
   simp (disch:=first|assumption|(push_cast<;>omega)|omega) only [go_sem,zlJ,zhv,a1]
   refine⟨by omega,?_⟩
   refine AXa.go mixed (zh) (zbK) (by kernel_rfl) ?_
   simp only [go_sem]
   refine⟨[(2,.sl 1 0 a.length 1 none)],Sub.of [(1,2)] rfl ?_ ?_ (Nat.le_succ _) (fun b hb _=>?_),?_⟩
   ·simp only [go_sem]
   ·simp only [go_sem]
    exact fun x hx=>(nomatch hx)
   ·obtain rfl:b=0:=Nat.lt_one_iff.1 hb
    rfl
   ·simp [zdK]
  ·have c1:¬c.length=0:=by omega
   refine AXs.rounds mixed zh zbK [(),()] (by kernel_rfl) ?_
   simp (disch:=first|assumption|(push_cast<;>omega)|omega) only [go_sem,zhv,a1,c1]
   refine⟨by omega,by omega,?_⟩
   refine AXa.go mixed (zh) (zbK) (by kernel_rfl) ?_
   simp only [go_sem]
   refine⟨[(2,.sl 1 0 (a++c).length 1 none)],Sub.of [(1,3)] rfl ?_ ?_ (Nat.le_succ _) (fun b hb _=>?_),?_⟩
   ·simp only [go_sem]
    simp
   ·simp only [go_sem]
    try rw [strs_app,List.take_of_length_le (by simp [strs])]
    try exact zA fun x hx=>(List.mem_append.1 hx).elim (zae a x) (zae c x)
   ·obtain rfl:b=0:=Nat.lt_one_iff.1 hb
    rfl
   ·rfl
theorem zp0:NCall prog 105 [.sl 0 0 2 1 (some 2)] [.cells [.fs [] 0,.fs [] 0]] [] .nilS ⟨[(0,.cells [.fs [] 0,.fs [] 0])],1⟩:=by
 refine NCall.walk (rs:=[.tmp 2]) [0,2,3,5,6,8,9,10,11,12,20,25,26,27,28] [] 1 mixed (zh) (zbK) zzb func105 rfl ntmps105 rfl (by kernel_rfl) (by simp) (by simp) (by simp) ?_;simp only [go_sem];refine AXs.rounds mixed zh zbK [(),()] (by kernel_rfl) ?_;simp (disch:=first|assumption|(push_cast<;>omega)|omega) only [go_sem,decide_false,Int.zero_add];refine AXa.go mixed (zh) (zbK) (by kernel_rfl) ?_;have hg:ΔSg 144 [.nilS,.int .i64 0] ⟨[(0,.cells [.fs [] 0,.fs [] 0])],1⟩=_:=zuV [(0,.cells [.fs [] 0,.fs [] 0])] 1 (by rfl);simp (disch:=first|assumption|(push_cast<;>omega)|omega) only [go_sem,hg];refine AXs.rounds mixed zh zbK [(),()] (by kernel_rfl) ?_;simp (disch:=first|assumption|(push_cast<;>omega)|omega) only [go_sem];refine AXa.go mixed (zh) (zbK) (by kernel_rfl) ?_;simp only [go_sem];refine⟨[(2,.nilS)],Sub.of [] rfl ?_ ?_ (Nat.le_refl _) (fun b hb _=>?_),rfl⟩
 ·simp only [go_sem]
 ·simp only [go_sem];exact fun x hx=>(nomatch hx)
 ·obtain rfl:b=0:=Nat.lt_one_iff.1 hb;rfl
def zlx(args:List V)(H:Hp)(r:AR):Prop:=
 ∃(b:Nat) (a c:List Str),args=[.sl b 0 2 1 (some 2)]∧H.get b=some (.cells [.fs (strs a) a.length,.fs (strs c) c.length])∧a.length≤100000∧c.length≤100000∧(∀ b x,H.get b=some x→b<H.next)∧
  r=if a.length+c.length=0 then⟨True,.nilS,H,[b],[]⟩else⟨True,.sl H.next 0 (a++c).length 1 none,⟨(H.next,.cells (strs (a++c)))::H.bs,H.next+1⟩,[b],[]⟩
theorem zpY:∀ args H r,zlx args H r→HCall prog 105 args H r:=by
 rintro args H r ⟨b,a,c,rfl,hb,ha,hc,hk,rfl⟩;have hF':∀(i:Nat) (x:Blk),([Blk.cells [.fs (strs a) a.length,.fs (strs c) c.length]]:List Blk)[i]? =some x→∀ π N,RnB π N x x:=by
  intro i x hx π N;match i with
  |0=>
   cases hx;exact .cells (zA fun x hx=>by
    simp only [List.mem_cons,List.not_mem_nil,or_false]at hx;rcases hx with rfl|rfl
    ·exact .fs (zae a)
    ·exact .fs (zae c))
  |i+1=>simp at hx
 have hF:∀(i:Nat) (x:Blk),([Blk.cells [.fs (strs a) a.length,.fs (strs c) c.length]]:List Blk)[i]? =some x→∃ b',[b][i]? =some b'∧H.get b'=some x∧RnB (fun i=>[b].getD i 0) (· <1) x x:=by
  intro i x hx;match i with
  |0=>exact⟨b,rfl,by cases hx;exact hb,hF' 0 x hx _ _⟩
  |i+1=>simp at hx
 have hargs:LRel (Rn (fun i=>[b].getD i 0) (· <1)) [V.sl 0 0 2 1 (some 2)] [.sl b 0 2 1 (some 2)]:=by
  refine⟨rfl,fun i x y hx hy=>?_⟩;match i with
  |0=>cases hx;cases hy;exact .sl (π:=fun i=>[b].getD i 0) (b:=0) (Nat.lt_one_iff.2 rfl) (.inr rfl)
  |i+1=>simp at hx
 by_cases h0:a.length+c.length=0
 ·rw [if_pos h0];obtain rfl:a=[]:=List.eq_nil_of_length_eq_zero (by omega);obtain rfl:c=[]:=List.eq_nil_of_length_eq_zero (by omega);exact HCall.none zp0 .nilS [b] _ H rfl (by simp) hargs hF hF' hk
 ·rw [if_neg h0];have pc:∀ x∈strs (a++c),Pure x:=zae _;exact HCall.fresh (F:=[.cells [.fs (strs a) a.length,.fs (strs c) c.length]]) (zuW a c ha hc (by omega)) pc [b] _ H rfl (by simp) hargs hF hF' hk
theorem zpZ(b:Nat)(a c:List Str)(bs:List (Nat×Blk))(nx:Nat)(hb:zar bs b=some (.cells [.fs (strs a) a.length,.fs (strs c) c.length]))(ha:a.length≤100000)(hc:c.length≤100000)(hk:((keysB bs).all fun b=>decide (b<nx))=true):
 conD zlx [.sl b 0 2 1 (some 2)] ⟨bs,nx⟩=some (if a.length+c.length=0 then⟨True,.nilS,⟨bs,nx⟩,[b],[]⟩else⟨True,.sl nx 0 (a++c).length 1 none,⟨(nx,.cells (strs (a++c)))::bs,nx+1⟩,[b],[]⟩):=by
 have hg:(⟨bs,nx⟩:Hp).get b=some (.cells [.fs (strs a) a.length,.fs (strs c) c.length]):=(zcM bs b).trans hb
 refine zaD ⟨b,a,c,rfl,hg,ha,hc,zbp hk,rfl⟩ ?_
 rintro r' ⟨b',a',c',he,hb',_,_,_,rfl⟩
 simp only [List.cons.injEq,V.sl.injEq,and_true]at he
 subst he
 rw [hg]at hb'
 simp only [Option.some.injEq,Blk.cells.injEq,List.cons.injEq,V.fs.injEq,and_true]at hb'
 obtain⟨⟨h1,_⟩,h2,_⟩:=hb'
 rw [zaN h1,zaN h2]
end Go.Proofs
