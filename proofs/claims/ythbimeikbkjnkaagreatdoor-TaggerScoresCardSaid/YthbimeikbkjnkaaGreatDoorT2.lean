/- A run: a model with the columns of its words; its methods; start. -/
import Derived.Test.YthbimeikbkjnkaaGreatDoorT1
import Derived.Test.YthbimeikbkjnkaaGreatDoorQRat6
import Derived.Test.YthbimeikbkjnkaaGreatDoorAbWalk
set_option linter.all false
namespace Go.Proofs
open Go.Ab Go.Cnt Go.Pl
theorem badW_ok(s:Str):PCall Tryz.prog 66 [.str s] (.ret (.bool (!nameB s))):=by
 refine PCall.walk (rs:=[.tmp 2]) [0,2] [] mixed (zh) (zg) call66 Tryz.func66 rfl Tryz.ntmps66 rfl (by kernel_rfl) (by simp) (by simp [push_cast]) ?_;simp only [go_sem];have e:decide (40<(s.length:Int))= !decide (s.length≤40):=by
  by_cases h:s.length≤40
  ·rw [decide_eq_true h,decide_eq_false (by omega)];rfl
  ·rw [decide_eq_false h,decide_eq_true (by omega)];rfl
 unfold nameB;rw [e];cases s<;>simp
noncomputable def cBadW:List V→Option PR:=zu (fun a:Str=>[.str a]) (fun _=>True) fun a=>.ret (.bool (!nameB a))
@[go_sem] theorem cBadW_eq(a:Str):cBadW [.str a]=some (.ret (.bool (!nameB a))):=zn (pat:=fun a:Str=>[.str a]) (fun x y h=>by simpa using h) a trivial
theorem cBadW_ok:∀ args r,cBadW args=some r→PCall Tryz.prog 66 args r:=zk fun a _=>badW_ok a
def fbS:List Str→Nat
 |[]=>0
 |a::l=>if nameB a=false then 0 else fbS l+1
theorem fbS_eq:∀ {l:List Str} {i:Nat},i<l.length→nameB (l.getD i [])=false→(∀ j,j<i→nameB (l.getD j [])=true)→fbS l=i
 |[],_,h,_,_=>by simp at h
 |a::l,0,_,h,_=>by
  have:nameB a=false:=by simpa using h
  unfold fbS;rw [if_pos this]
 |a::l,i+1,h,h1,h2=>by
  have h3:nameB a=true:=by simpa using h2 0 (by omega)
  unfold fbS;rw [if_neg (by rw [h3];simp),fbS_eq (l:=l) (i:=i) (by simpa using h) (by simpa using h1) (fun j hj=>by simpa using h2 (j+1) (by omega))]
def fbI(l:List Str):Int:=if l.all nameB=true then -1 else fbS l
set_option maxHeartbeats 4000000 in
theorem ixf_ok(l:List Str)(hl:l.length≤1000000):PCall Tryz.prog 108 [.fs (strs l) l.length,.fn 66 []] (.ret (.int .i64 (fbI l))):=by
 have hΓ:=zf cBadW_ok zh;refine PCall.walk (rs:=[.tmp 4]) [0,1,4,5,7,8,9,16] [] mixed (hΓ) (zg) call108 Tryz.func108 rfl Tryz.ntmps108 rfl (by kernel_rfl) (by simp) (by simp [push_cast]) ?_;simp only [go_sem];refine AXs.loop mixed (hΓ) (zg) (fun i:Nat=>[(0,.fs (strs l) l.length),(1,.fn 66 []),(7,.int .i64 l.length),(8,.int .i64 i)]) (fun _=>⟨[],0⟩) (fun i=>i≤l.length∧∀ j,j<i→nameB (l.getD j [])=true) (fun i=>l.length - i) 0 (by kernel_rfl) ⟨Nat.zero_le _,fun j hj=>by omega⟩ (Sub.of0 [] rfl rfl ?_ ?_) ?_
 ·simp only [go_sem]
 ·simp only [go_sem]
 rintro i ⟨h1,h2⟩;simp only [go_sem];refine AXc.introP (fun h3=>?_) (fun h3=>?_)
 ·have hi:i<l.length:=by omega
  simp (disch:=first|assumption|(push_cast<;>omega)|omega) only [go_sem]
  (repeat refine sdC ?_);cases hn:nameB (l.getD i [])with
  |false=>
   simp (disch:=first|assumption|(push_cast<;>omega)|omega) only [go_sem];have e:fbI l=i:=by unfold fbI;rw [zfH hi hn,if_neg (by simp),fbS_eq hi hn h2]
   rw [e]
  |true=>
   simp (disch:=first|assumption|(push_cast<;>omega)|omega) only [go_sem];refine zo (i+1) ⟨by omega,fun j hj=>?_⟩ (by omega) (Sub.of0 [] rfl rfl ?_ ?_)
   ·by_cases hji:j<i
    ·exact h2 j hji
    ·obtain rfl:j=i:=by omega
     exact hn
   ·simp only [go_sem];simp
   ·simp only [go_sem]
 ·obtain rfl:i=l.length:=by omega
  have e:fbI l= -1:=by unfold fbI;rw [zfG h2,if_pos rfl]
  rw [e];simp only [go_sem];refine AXa.go mixed (hΓ) (zg) (by kernel_rfl) ?_;simp only [go_sem]
noncomputable def cIxf:List V→Option PR:=zu (fun l:List Str=>[.fs (strs l) l.length,.fn 66 []]) (fun l=>l.length≤1000000) fun l=>.ret (.int .i64 (fbI l))
@[go_sem] theorem cIxf_eq(l:List Str)(hl:l.length≤1000000):cIxf [.fs (strs l) l.length,.fn 66 []]=some (.ret (.int .i64 (fbI l))):=
 zn (pat:=fun l:List Str=>[.fs (strs l) l.length,.fn 66 []]) (fun x y h=>by simp at h;exact zao h.1) l hl
theorem cIxf_ok:∀ args r,cIxf args=some r→PCall Tryz.prog 108 args r:=zk fun l h=>ixf_ok l h
theorem cof_ok(l:List Str)(hl:l.length≤1000000):PCall Tryz.prog 65 [.fs (strs l) l.length,.fn 66 []] (.ret (.bool (!l.all nameB))):=by
 refine PCall.walk (rs:=[.tmp 4]) [0,1,4] [] mixed (zf cIxf_ok zh) (zg) call65 Tryz.func65 rfl Tryz.ntmps65 rfl (by kernel_rfl) (by simp) (by simp [push_cast]) ?_;have e:decide (0≤fbI l)= !l.all nameB:=by
  unfold fbI;cases h:l.all nameB with
  |false=>rw [if_neg (by simp)];exact decide_eq_true (by omega)
  |true=>rw [if_pos rfl];exact decide_eq_false (by omega)
 simp (disch:=first|assumption|(push_cast<;>omega)|omega) only [go_sem];rw [e]
noncomputable def cCof:List V→Option PR:=zu (fun l:List Str=>[.fs (strs l) l.length,.fn 66 []]) (fun l=>l.length≤1000000) fun l=>.ret (.bool (!l.all nameB))
@[go_sem] theorem cCof_eq(l:List Str)(hl:l.length≤1000000):cCof [.fs (strs l) l.length,.fn 66 []]=some (.ret (.bool (!l.all nameB))):=
 zn (pat:=fun l:List Str=>[.fs (strs l) l.length,.fn 66 []]) (fun x y h=>by simp at h;exact zao h.1) l hl
theorem zxx:∀ args r,cCof args=some r→PCall Tryz.prog 65 args r:=zk fun l h=>cof_ok l h
def zby(l:List Str):Bool:=l.all nameB&&decide (l.length≤200)
structure Run where
 m:Mdl
 cs:List Nat
 f:Int
def runC(r:Run):List V:=[.fs (strs r.m.tags) r.m.tags.length,.fs (strs r.m.words) r.m.words.length,.fs (zI r.m.next) r.m.next.length,.fs (zI r.m.emit) r.m.emit.length,.fs (nats .i64 r.cs) r.cs.length,.int .i64 r.f]
theorem zja {a b:Run}(h:runC a=runC b):a=b:=by obtain⟨⟨a1,a2,a3,a4⟩,a5,a6⟩:=a;obtain⟨⟨b1,b2,b3,b4⟩,b5,b6⟩:=b;simp only [runC,List.cons.injEq,V.fs.injEq,V.int.injEq,and_true,true_and]at h;obtain⟨⟨h1,_⟩,⟨h2,_⟩,⟨h3,_⟩,⟨h4,_⟩,⟨h5,_⟩,h6⟩:=h;rw [zao h1,zao h2,zbT h3,zbT h4,zar h5,h6]
theorem zdz(r:Run):∀ x∈runC r,Pure x:=fun x h=>by
 simp only [runC,List.mem_cons,List.not_mem_nil,or_false]at h;rcases h with rfl|rfl|rfl|rfl|rfl|rfl
 ·exact .fs (zai _)
 ·exact .fs (zai _)
 ·exact .fs (zaK _)
 ·exact .fs (zaK _)
 ·exact .fs (zal _ _)
 ·exact .int _ _
def mEnds:Meth Unit Run where
 pat _:=[]
 cel:=runC
 cond _ r:=r.m.tags.length≤1000000
 val _ r:=.int .i64 r.m.tags.length
 upd _ r:=r
 patI _ _ _:=rfl
 celI _ _:=zja
 patP _ v h:=by simp at h
 celP:=zdz
 valP _ _:=.int _ _
def zuR:Meth (Str×Int) Run where
 pat x:=[.str x.1,.int .i64 x.2]
 cel:=runC
 cond _ _:=True
 val x r:=.str (kn r.f x).1
 upd x r:=⟨r.m,r.cs,(kn r.f x).2⟩
 patI x y h:=by simp at h;exact Prod.ext h.1 h.2
 celI _ _:=zja
 patP x v h:=by
  simp only [List.mem_cons,List.not_mem_nil,or_false]at h;rcases h with rfl|rfl
  ·exact .str _
  ·exact .int _ _
 celP:=zdz
 valP _ _:=.str _
def zuQ:Meth (Str×Str) Run where
 pat x:=[.str x.1,.str x.2]
 cel:=runC
 cond x _:=x.1.length≤1000000000∧x.2.length≤1000000000
 val x r:=.str (tm r.f x.1 x.2).1
 upd x r:=⟨r.m,r.cs,(tm r.f x.1 x.2).2⟩
 patI x y h:=by simp at h;exact Prod.ext h.1 h.2
 celI _ _:=zja
 patP x v h:=by
  simp only [List.mem_cons,List.not_mem_nil,or_false]at h;rcases h with rfl|rfl
  ·exact .str _
  ·exact .str _
 celP:=zdz
 valP _ _:=.str _
set_option maxHeartbeats 4000000 in
theorem ends_N(r:Run)(h:r.m.tags.length≤1000000):NCall Tryz.prog 34 [.ptr 0 0] [.cells (runC r)] [] (.int .i64 r.m.tags.length) ⟨[(0,.cells (runC r))],1⟩:=by
 refine NCall.walk (rs:=[.tmp 2]) [0,2] [] 1 mixed (zh) (zg) call34 Tryz.func34 rfl Tryz.ntmps34 rfl (by kernel_rfl) (by simp) (by simp) (by simp) ?_;obtain⟨⟨T,W,N,E⟩,cs,f⟩:=r;unfold runC;dsimp only at h ⊢;simp only [go_sem];refine⟨[(2,.int .i64 T.length)],Sub.of [] rfl ?_ ?_ (by decide) (fun b hb hw=>?_),rfl⟩
 ·simp only [go_sem]
 ·simp only [go_sem]
 ·obtain rfl:b=0:=Nat.lt_one_iff.1 hb;rfl
set_option maxHeartbeats 4000000 in
theorem known_N(r:Run)(p:Str)(e:Int):NCall Tryz.prog 68 [.ptr 0 0,.str p,.int .i64 e] [.cells (runC r)] [0] (.str (kn r.f (p,e)).1) ⟨[(0,.cells (runC ⟨r.m,r.cs,(kn r.f (p,e)).2⟩))],1⟩:=by
 refine NCall.walkW (rs:=[.tmp 6]) [0,1,2,6,8,13] [] 1 [0] mixed (zh) (zg) call68 Tryz.func68 rfl Tryz.ntmps68 rfl (by kernel_rfl) (by simp) (by simp) (by simp) (by simp) ?_;obtain⟨⟨T,W,N,E⟩,cs,f⟩:=r;unfold runC kn;dsimp only;simp only [go_sem];refine AXc.introN (fun h1=>?_) (fun h1=>?_)
 ·rw [if_pos h1];simp only [go_sem];refine AXc.introP (fun h2=>?_) (fun h2=>?_)
  ·rw [if_pos h2];simp (disch:=first|assumption|(push_cast<;>omega)|omega) only [go_sem];refine⟨rfl,[(6,.str [48])],Sub.of [] rfl ?_ ?_ (by decide) (fun b hb hw=>absurd (Nat.lt_one_iff.1 hb) (by simpa using hw)),rfl⟩
   ·simp only [go_sem]
   ·simp only [go_sem]
  ·rw [if_neg h2];simp (disch:=first|assumption|(push_cast<;>omega)|omega) only [go_sem];refine⟨[(6,.str [48])],Sub.of [] rfl ?_ ?_ (by decide) (fun b hb hw=>absurd (Nat.lt_one_iff.1 hb) (by simpa using hw)),rfl⟩
   ·simp only [go_sem]
   ·simp only [go_sem]
 ·rw [if_neg (fun h=>h h1)];simp only [go_sem];refine⟨[(6,.str p)],Sub.of [] rfl ?_ ?_ (by decide) (fun b hb hw=>absurd (Nat.lt_one_iff.1 hb) (by simpa using hw)),rfl⟩
  ·simp only [go_sem]
  ·simp only [go_sem]
noncomputable def ΔK:FuncId→List V→Hp→Option AR:=zdK 68 (conD (MethW zuR)) noΔ
theorem ΔK_ok:zbc Tryz.prog ΔK:=zaT (zbq (zoP zuR fun x r _=>known_N r x.1 x.2)) zg
theorem ΔK_at(r:Run)(x:Str×Int):ΔK 68 [.ptr 0 0,.str x.1,.int .i64 x.2] ⟨[(0,.cells (runC r))],1⟩=some ⟨True,.str (kn r.f x).1,⟨[(0,.cells (runC ⟨r.m,r.cs,(kn r.f x).2⟩))],1⟩,[0],[0]⟩:=
 zoQ zuR (b:=0) (x:=x) (s:=r) (bs:=[(0,.cells (runC r))]) (n:=1) trivial rfl rfl
theorem runC_rn {π:Nat→Nat}{N:Nat→Prop}(r:Run):LRel (Rn π N) (runC r) (runC r)↔True:=⟨fun _=>trivial,fun _=>zC (zdz r)⟩
attribute [go_sem] runC_rn
set_option maxHeartbeats 4000000 in
theorem times_N(r:Run)(p q:Str)(lp:p.length≤1000000000)(lq:q.length≤1000000000):NCall Tryz.prog 36 [.ptr 0 0,.str p,.str q] [.cells (runC r)] [0] (.str (tm r.f p q).1) ⟨[(0,.cells (runC ⟨r.m,r.cs,(tm r.f p q).2⟩))],1⟩:=by
 have hΓ:=zf zsj zh;have r1:=zwI p q lp lq;have r2:=ΔK_at r (pmul p q);have hv:tm r.f p q=kn r.f (pmul p q):=rfl;rw [hv];refine NCall.walkW (rs:=[.tmp 6]) [0,1,2,6] [] 1 [0] mixed (hΓ) (ΔK_ok) call36 Tryz.func36 rfl Tryz.ntmps36 rfl (by kernel_rfl) (by simp) (by simp) (by simp) (by simp) ?_;simp (disch:=first|assumption|(push_cast<;>omega)|omega) only [go_sem,r1,r2];refine⟨rfl,[(6,.str (kn r.f (pmul p q)).1)],Sub.of [] rfl ?_ ?_ (by decide) (fun b hb hw=>absurd (Nat.lt_one_iff.1 hb) (by simpa using hw)),rfl⟩
 ·simp only [go_sem]
 ·simp only [go_sem]
end Go.Proofs

namespace Go.Proofs
open Go.Ab Go.Cnt
theorem Tryz.infoS:zfR Tryz.prog 9=some (1,16,true):=by kernel_rfl
attribute [go_sem] Tryz.infoS Int.sub_zero
theorem zwt:zi Tryz.prog 144:=fun a w=>by kernel_rfl
theorem zwv:zi Tryz.prog 105:=fun a w=>by kernel_rfl
theorem zkB:strs []=[]:=rfl
theorem strs_app(a b:List Str):strs (a++b)=strs a++strs b:=by simp [strs]
theorem zgL(l:List Str):(strs l).all V.one=true:=List.all_eq_true.2 fun x h=>by simp only [strs,List.mem_map]at h;obtain⟨s,_,rfl⟩:=h;rfl
def zho(n:Nat):List V:=List.replicate n (V.str [])
theorem zyn(n:Nat):zeu (some (.string ⟨([]:List UInt8).toArray⟩)) n=zho n:=rfl
theorem zhn(n:Nat):∀ x∈zho n,Pure x:=by intro x hx;unfold zho at hx;rw [List.eq_of_mem_replicate hx];exact .str _
theorem zyr:NCall Tryz.prog 144 [.nilS,.int .i64 0] [] [] .nilS ⟨[],0⟩:=by
 refine NCall.walk (rs:=[.tmp 4]) [0,1,4,6,16] [] 0 mixed (zh) (zg) zwt Tryz.func144 rfl Tryz.ntmps144 rfl (by kernel_rfl) (by simp) (by simp) (by simp) ?_;simp only [go_sem];refine⟨[(4,.nilS)],Sub.of0 [] rfl rfl ?_ ?_,rfl⟩
 ·simp only [go_sem]
 ·simp only [go_sem]
theorem Sgrow_ok(n:Nat)(h0:0<n)(h1:n≤1000000):NCall Tryz.prog 144 [.nilS,.int .i64 n] [] [] (.sl 0 0 0 1 none) ⟨[(0,.cells (zho n))],1⟩:=by
 have h0':0<(n:Int):=by omega
 have h1':(n:Int)≤1000000:=by omega
 have h2':¬(n:Int)<0:=by omega
 refine NCall.walk (rs:=[.tmp 4]) [0,1,4,6,16] [] 0 mixed (zh) (zg) zwt Tryz.func144 rfl Tryz.ntmps144 rfl (by kernel_rfl) (by simp) (by simp) (by simp) ?_;simp (disch:=first|assumption|(push_cast<;>omega)|omega) only [go_sem,h0',h1',h2',decide_true,decide_false,zyn];refine⟨by omega,[(4,.sl 0 0 0 1 none)],Sub.of0 [] rfl rfl ?_ ?_,rfl⟩
 ·simp only [go_sem]
 ·simp only [go_sem];exact zC (zhn n)
theorem zfI(k:IntKind)(n:Int):∀ x∈[V.nilS,V.int k n],Pure x:=by
 intro x hx;simp only [List.mem_cons,List.not_mem_nil,or_false]at hx;rcases hx with rfl|rfl
 ·exact .nilS
 ·exact .int _ _
def zfJ(args:List V)(H:Hp)(r:AR):Prop:=
 ∃ n:Nat,args=[.nilS,.int .i64 n]∧n≤1000000∧(∀ b x,H.get b=some x→b<H.next)∧
  r=if n=0 then⟨True,.nilS,H,[],[]⟩else⟨True,.sl H.next 0 0 1 none,⟨(H.next,.cells (zho n))::H.bs,H.next+1⟩,[],[]⟩
theorem zyp:∀ args H r,zfJ args H r→HCall Tryz.prog 144 args H r:=by
 rintro args H r ⟨n,rfl,hn,hk,rfl⟩;by_cases h0:n=0
 ·subst h0;rw [if_pos rfl];exact HCall.none zyr .nilS [] _ H rfl .nil (zC (zfI _ _)) (fun i x hx=>by simp at hx) (fun i x hx=>by simp at hx) hk
 ·rw [if_neg h0];exact HCall.fresh (F:=[]) (Sgrow_ok n (by omega) hn) (zhn n) [] _ H rfl .nil (zC (zfI _ _)) (fun i x hx=>by simp at hx) (fun i x hx=>by simp at hx) hk
theorem zhp {args:List V}{H:Hp}{r r':AR}(h:zfJ args H r)(h':zfJ args H r'):r'=r:=by
 obtain⟨n,rfl,_,_,rfl⟩:=h;obtain⟨m,he,_,_,rfl⟩:=h';simp only [List.cons.injEq,V.int.injEq,and_true,true_and]at he;have:n=m:=by omega
 subst this;rfl
theorem zyq(n:Nat)(z:Int)(bs:List (Nat×Blk))(nx:Nat)(hz:z=n)(h0:0<n)(hn:n≤1000000)(hk:((keysB bs).all fun b=>decide (b<nx))=true):
 conD zfJ [.nilS,.int .i64 z] ⟨bs,nx⟩=some ⟨True,.sl nx 0 0 1 none,⟨(nx,.cells (zho n))::bs,nx+1⟩,[],[]⟩:=by
 subst hz
 have h:zfJ [.nilS,.int .i64 n] ⟨bs,nx⟩ ⟨True,.sl nx 0 0 1 none,⟨(nx,.cells (zho n))::bs,nx+1⟩,[],[]⟩:=⟨n,rfl,hn,zb1 hk,by rw [if_neg (by omega)]⟩
 exact zaZ h fun r' h'=>zhp h h'
theorem zsN(bs:List (Nat×Blk))(nx:Nat)(hk:((keysB bs).all fun b=>decide (b<nx))=true):conD zfJ [.nilS,.int .i64 0] ⟨bs,nx⟩=some ⟨True,.nilS,⟨bs,nx⟩,[],[]⟩:=by have h:zfJ [.nilS,.int .i64 0] ⟨bs,nx⟩ ⟨True,.nilS,⟨bs,nx⟩,[],[]⟩:=⟨0,rfl,by omega,zb1 hk,by rw [if_pos rfl]⟩;exact zaZ h fun r' h'=>zhp h h'
noncomputable def ΔSg:FuncId→List V→Hp→Option AR:=zdK 144 (conD zfJ) noΔ
theorem zbw:zbc Tryz.prog ΔSg:=zaT (zbq zyp) zg
set_option maxHeartbeats 4000000 in
theorem zsO(a c:List Str)(ha:a.length≤100000)(hc:c.length≤100000)(hne:0<a.length+c.length):NCall Tryz.prog 105 [.sl 0 0 2 1 (some 2)] [.cells [.fs (strs a) a.length,.fs (strs c) c.length]] []
 (.sl 1 0 (a++c).length 1 none) ⟨[(1,.cells (strs (a++c))),(0,.cells [.fs (strs a) a.length,.fs (strs c) c.length])],2⟩:=by
 refine NCall.walk (rs:=[.tmp 2]) [0,2,3,5,6,8,9,10,11,12,20,25,26,27,28] [] 1 mixed (zh) (zbw) zwv Tryz.func105 rfl Tryz.ntmps105 rfl (by kernel_rfl) (by simp) (by simp) (by simp) ?_
 simp only [go_sem]
 have k1:¬((a.length:Int)<0):=by omega
 have k2:¬((a.length:Int)+(c.length:Int)<0):=by omega
 refine AXs.rounds mixed zh zbw [(),()] (by kernel_rfl) ?_
 simp (disch:=first|assumption|(push_cast<;>omega)|omega) only [go_sem,k1,k2,decide_false,Int.zero_add]
 refine AXa.go mixed (zh) (zbw) (by kernel_rfl) ?_
 have hg:=zyq (a.length+c.length) ((a.length:Int)+(c.length:Int)) [(0,.cells [.fs (strs a) a.length,.fs (strs c) c.length])] 1 (by omega) hne (by omega) (by rfl)
 have hg':ΔSg 144 [.nilS,.int .i64 ((a.length:Int)+(c.length:Int))] ⟨[(0,.cells [.fs (strs a) a.length,.fs (strs c) c.length])],1⟩=_:=hg
 simp (disch:=first|assumption|(push_cast<;>omega)|omega) only [go_sem,hg']
 clear hg hg'
 rcases Nat.eq_zero_or_pos a.length with ha0|ha0
 ·obtain rfl:a=[]:=List.eq_nil_of_length_eq_zero ha0
  have c1:¬c.length=0:=by simp at hne;omega
  refine AXs.rounds mixed zh zbw [(),()] (by kernel_rfl) ?_
  simp (disch:=first|assumption|(push_cast<;>omega)|omega) only [go_sem,zkB,zgL,c1]
  refine⟨by omega,?_⟩
  refine AXa.go mixed (zh) (zbw) (by kernel_rfl) ?_
  simp only [go_sem]
  refine⟨[(2,.sl 1 0 c.length 1 none)],Sub.of [(1,2)] rfl ?_ ?_ (Nat.le_succ _) (fun b hb _=>?_),?_⟩
  ·simp only [go_sem]
  ·simp only [go_sem]
   exact fun x hx=>(nomatch hx)
  ·obtain rfl:b=0:=Nat.lt_one_iff.1 hb
   rfl
  ·rfl
 ·have a1:¬a.length=0:=by omega
  rcases Nat.eq_zero_or_pos c.length with hc0|hc0
  ·obtain rfl:c=[]:=List.eq_nil_of_length_eq_zero hc0
   refine AXs.rounds mixed zh zbw [(),()] (by kernel_rfl) ?_
   simp (disch:=first|assumption|(push_cast<;>omega)|omega) only [go_sem,zkB,zgL,a1]
   refine⟨by omega,?_⟩
   refine AXa.go mixed (zh) (zbw) (by kernel_rfl) ?_
   simp only [go_sem]
   refine⟨[(2,.sl 1 0 a.length 1 none)],Sub.of [(1,2)] rfl ?_ ?_ (Nat.le_succ _) (fun b hb _=>?_),?_⟩
   ·simp only [go_sem]
   ·simp only [go_sem]
    exact fun x hx=>(nomatch hx)
   ·obtain rfl:b=0:=Nat.lt_one_iff.1 hb
    rfl
   ·simp [zds]
  ·have c1:¬c.length=0:=by omega
   refine AXs.rounds mixed zh zbw [(),()] (by kernel_rfl) ?_
   simp (disch:=first|assumption|(push_cast<;>omega)|omega) only [go_sem,zgL,a1,c1]
   refine⟨by omega,by omega,?_⟩
   refine AXa.go mixed (zh) (zbw) (by kernel_rfl) ?_
   simp only [go_sem]
   refine⟨[(2,.sl 1 0 (a++c).length 1 none)],Sub.of [(1,3)] rfl ?_ ?_ (Nat.le_succ _) (fun b hb _=>?_),?_⟩
   ·simp only [go_sem]
    simp
   ·simp only [go_sem]
    try rw [strs_app,List.take_of_length_le (by simp [strs])]
    try exact zC fun x hx=>(List.mem_append.1 hx).elim (zai a x) (zai c x)
   ·obtain rfl:b=0:=Nat.lt_one_iff.1 hb
    rfl
   ·rfl
theorem zoo:NCall Tryz.prog 105 [.sl 0 0 2 1 (some 2)] [.cells [.fs [] 0,.fs [] 0]] [] .nilS ⟨[(0,.cells [.fs [] 0,.fs [] 0])],1⟩:=by
 refine NCall.walk (rs:=[.tmp 2]) [0,2,3,5,6,8,9,10,11,12,20,25,26,27,28] [] 1 mixed (zh) (zbw) zwv Tryz.func105 rfl Tryz.ntmps105 rfl (by kernel_rfl) (by simp) (by simp) (by simp) ?_;simp only [go_sem];refine AXs.rounds mixed zh zbw [(),()] (by kernel_rfl) ?_;simp (disch:=first|assumption|(push_cast<;>omega)|omega) only [go_sem,decide_false,Int.zero_add];refine AXa.go mixed (zh) (zbw) (by kernel_rfl) ?_;have hg:ΔSg 144 [.nilS,.int .i64 0] ⟨[(0,.cells [.fs [] 0,.fs [] 0])],1⟩=_:=zsN [(0,.cells [.fs [] 0,.fs [] 0])] 1 (by rfl);simp (disch:=first|assumption|(push_cast<;>omega)|omega) only [go_sem,hg];refine AXs.rounds mixed zh zbw [(),()] (by kernel_rfl) ?_;simp (disch:=first|assumption|(push_cast<;>omega)|omega) only [go_sem];refine AXa.go mixed (zh) (zbw) (by kernel_rfl) ?_;simp only [go_sem];refine⟨[(2,.nilS)],Sub.of [] rfl ?_ ?_ (Nat.le_refl _) (fun b hb _=>?_),rfl⟩
 ·simp only [go_sem]
 ·simp only [go_sem];exact fun x hx=>(nomatch hx)
 ·obtain rfl:b=0:=Nat.lt_one_iff.1 hb;rfl
def zkr(args:List V)(H:Hp)(r:AR):Prop:=
 ∃(b:Nat) (a c:List Str),args=[.sl b 0 2 1 (some 2)]∧H.get b=some (.cells [.fs (strs a) a.length,.fs (strs c) c.length])∧a.length≤100000∧c.length≤100000∧(∀ b x,H.get b=some x→b<H.next)∧
  r=if a.length+c.length=0 then⟨True,.nilS,H,[b],[]⟩else⟨True,.sl H.next 0 (a++c).length 1 none,⟨(H.next,.cells (strs (a++c)))::H.bs,H.next+1⟩,[b],[]⟩
theorem zom:∀ args H r,zkr args H r→HCall Tryz.prog 105 args H r:=by
 rintro args H r ⟨b,a,c,rfl,hb,ha,hc,hk,rfl⟩;have hF':∀(i:Nat) (x:Blk),([Blk.cells [.fs (strs a) a.length,.fs (strs c) c.length]]:List Blk)[i]? =some x→∀ π N,RnB π N x x:=by
  intro i x hx π N;match i with
  |0=>
   cases hx;exact .cells (zC fun x hx=>by
    simp only [List.mem_cons,List.not_mem_nil,or_false]at hx;rcases hx with rfl|rfl
    ·exact .fs (zai a)
    ·exact .fs (zai c))
  |i+1=>simp at hx
 have hF:∀(i:Nat) (x:Blk),([Blk.cells [.fs (strs a) a.length,.fs (strs c) c.length]]:List Blk)[i]? =some x→∃ b',[b][i]? =some b'∧H.get b'=some x∧RnB (fun i=>[b].getD i 0) (· <1) x x:=by
  intro i x hx;match i with
  |0=>exact⟨b,rfl,by cases hx;exact hb,hF' 0 x hx _ _⟩
  |i+1=>simp at hx
 have hargs:LRel (Rn (fun i=>[b].getD i 0) (· <1)) [V.sl 0 0 2 1 (some 2)] [.sl b 0 2 1 (some 2)]:=by
  refine⟨rfl,fun i x y hx hy=>?_⟩;match i with
  |0=>cases hx;cases hy;exact .sl (π:=fun i=>[b].getD i 0) (b:=0) (Nat.lt_one_iff.2 rfl) (.inr rfl)
  |i+1=>simp at hx
 by_cases h0:a.length+c.length=0
 ·rw [if_pos h0];obtain rfl:a=[]:=List.eq_nil_of_length_eq_zero (by omega);obtain rfl:c=[]:=List.eq_nil_of_length_eq_zero (by omega);exact HCall.none zoo .nilS [b] _ H rfl (by simp) hargs hF hF' hk
 ·rw [if_neg h0];have pc:∀ x∈strs (a++c),Pure x:=zai _;exact HCall.fresh (F:=[.cells [.fs (strs a) a.length,.fs (strs c) c.length]]) (zsO a c ha hc (by omega)) pc [b] _ H rfl (by simp) hargs hF hF' hk
theorem zon(b:Nat)(a c:List Str)(bs:List (Nat×Blk))(nx:Nat)(hb:zbd bs b=some (.cells [.fs (strs a) a.length,.fs (strs c) c.length]))(ha:a.length≤100000)(hc:c.length≤100000)(hk:((keysB bs).all fun b=>decide (b<nx))=true):
 conD zkr [.sl b 0 2 1 (some 2)] ⟨bs,nx⟩=some (if a.length+c.length=0 then⟨True,.nilS,⟨bs,nx⟩,[b],[]⟩else⟨True,.sl nx 0 (a++c).length 1 none,⟨(nx,.cells (strs (a++c)))::bs,nx+1⟩,[b],[]⟩):=by
 have hg:(⟨bs,nx⟩:Hp).get b=some (.cells [.fs (strs a) a.length,.fs (strs c) c.length]):=(zd3 bs b).trans hb
 refine zaZ ⟨b,a,c,rfl,hg,ha,hc,zb1 hk,rfl⟩ ?_
 rintro r' ⟨b',a',c',he,hb',_,_,_,rfl⟩
 simp only [List.cons.injEq,V.sl.injEq,and_true]at he
 subst he
 rw [hg]at hb'
 simp only [Option.some.injEq,Blk.cells.injEq,List.cons.injEq,V.fs.injEq,and_true]at hb'
 obtain⟨⟨h1,_⟩,h2,_⟩:=hb'
 rw [zao h1,zao h2]
end Go.Proofs

namespace Go.Proofs
open Go.Ab Go.Cnt Go.Pl
structure Fit(m:Mdl):Prop where
 tl:m.tags.length≤100000
 wl:m.words.length≤100000
 nl:m.next.length≤100000
 el:m.emit.length≤100000
 ts:∀ s∈m.tags,s.length≤1000000000000000
 ws:∀ s∈m.words,s.length≤1000000000000000
 nr:∀ r∈m.next,r.length≤1000000
 er:∀ r∈m.emit,r.length≤1000000
 ns:∀ r∈m.next,∀ s∈r,s.length≤1000000
 es:∀ r∈m.emit,∀ s∈r,s.length≤1000000
noncomputable def vmB(m:Mdl):Bool:=decide (m.tags.length≤40)&&(decide (m.words.length≤500)&&(incS m.tags&&(incS m.words&&((m.tags++m.words).all nameB&&(matB m.next (m.tags.length+1) (m.tags.length+1)&&matB m.emit m.tags.length (m.words.length+1))))))
noncomputable def cRows:List V→Option PR:=zu (fun p:List (List Str)×Nat×Nat=>[.fs (zI p.1) p.1.length,.int .i64 p.2.1,.int .i64 p.2.2]) (fun p=>p.1.length≤1000000∧(∀ r∈p.1,r.length≤1000000)∧∀ r∈p.1,∀ s∈r,s.length≤1000000) fun p=>.ret (.bool (matB p.1 p.2.1 p.2.2))
theorem cRows_ok:∀ args r,cRows args=some r→PCall Tryz.prog 107 args r:=zk fun p h=>rows_ok p.1 p.2.1 p.2.2 h.1 h.2.1 h.2.2
theorem zpn(m:List (List Str))(n w:Nat)(a b:Int)(ha:a=n)(hb:b=w)(h1:m.length≤1000000)(h2:∀ r∈m,r.length≤1000000)(h3:∀ r∈m,∀ s∈r,s.length≤1000000):cRows [.fs (zI m) m.length,.int .i64 a,.int .i64 b]=some (.ret (.bool (matB m n w))):=by
 subst ha hb;exact zn (pat:=fun p:List (List Str)×Nat×Nat=>[V.fs (zI p.1) p.1.length,.int .i64 p.2.1,.int .i64 p.2.2]) (fun x y h=>by
  obtain⟨x1,x2,x3⟩:=x;obtain⟨y1,y2,y3⟩:=y;simp only [List.cons.injEq,V.fs.injEq,V.int.injEq,and_true,true_and]at h;obtain⟨⟨e1,_⟩,e2,e3⟩:=h;have e2':x2=y2:=by omega
  have e3':x3=y3:=by omega
  rw [zbT e1,e2',e3']) (m,n,w) ⟨h1,h2,h3⟩
noncomputable def zw9:List V→Option PR:=zu (fun p:List (List Str)×Nat×Nat=>[.fs (zI p.1) p.1.length,.int .i64 p.2.1,.int .i64 p.2.2]) (fun p=>p.1.length≤1000000∧(∀ r∈p.1,r.length≤1000000)∧∀ r∈p.1,∀ s∈r,s.length≤1000000) fun p=>.ret (.bool (matB p.1 p.2.1 p.2.2))
theorem zst:∀ args r,zw9 args=some r→PCall Tryz.prog 48 args r:=zk fun p h=>zuO p.1 p.2.1 p.2.2 h.1 h.2.1 h.2.2
theorem ziD(m:List (List Str))(n w:Nat)(a b:Int)(ha:a=n)(hb:b=w)(h1:m.length≤1000000)(h2:∀ r∈m,r.length≤1000000)(h3:∀ r∈m,∀ s∈r,s.length≤1000000):zw9 [.fs (zI m) m.length,.int .i64 a,.int .i64 b]=some (.ret (.bool (matB m n w))):=by
 subst ha hb;exact zn (pat:=fun p:List (List Str)×Nat×Nat=>[V.fs (zI p.1) p.1.length,.int .i64 p.2.1,.int .i64 p.2.2]) (fun x y h=>by
  obtain⟨x1,x2,x3⟩:=x;obtain⟨y1,y2,y3⟩:=y;simp only [List.cons.injEq,V.fs.injEq,V.int.injEq,and_true,true_and]at h;obtain⟨⟨e1,_⟩,e2,e3⟩:=h;have e2':x2=y2:=by omega
  have e3':x3=y3:=by omega
  rw [zbT e1,e2',e3']) (m,n,w) ⟨h1,h2,h3⟩
noncomputable def cRIncr:List V→Option PR:=zu (fun l:List Str=>[.fs (strs l) l.length]) (fun l=>l.length≤1000000∧∀ s∈l,s.length≤1000000000000000) fun l=>.ret (.bool (zhz l))
theorem zl2(l:List Str)(hl:l.length≤1000000)(hs:∀ s∈l,s.length≤1000000000000000):cRIncr [.fs (strs l) l.length]=some (.ret (.bool (zhz l))):=
 zn (pat:=fun l:List Str=>[.fs (strs l) l.length]) (fun x y h=>by simp at h;exact zao h.1) l ⟨hl,hs⟩
theorem zwT:∀ args r,cRIncr args=some r→PCall Tryz.prog 47 args r:=zk fun l h=>rincr_ok l h.1 h.2
set_option maxHeartbeats 8000000 in
set_option maxRecDepth 100000 in
theorem zhw(m:Mdl)(h:Fit m):PCall Tryz.prog 23 [mdlV m] (.ret (.bool (vmB m))):=by
 have hΓ:=zf zwT (zf zst zh);obtain⟨tl,wl,nl,el,ts,ws,nr,er,ns,es⟩:=h;obtain⟨T,W,N,E⟩:=m;dsimp only at tl wl nl el ts ws nr er ns es;have i1:=zl2 T (by omega) ts;have i2:=zl2 W (by omega) ws;have m1:=ziD N (T.length+1) (T.length+1) ((T.length:Int)+1) ((T.length:Int)+1) (by omega) (by omega) (by omega) nr ns;have m2:=ziD E T.length (W.length+1) (T.length:Int) ((W.length:Int)+1) rfl (by omega) (by omega) er es;have hv:vmB ⟨T,W,N,E⟩=(decide ((T.length:Int)≤40)&&decide ((W.length:Int)≤500)&&zhz T&&zhz W&&matB N (T.length+1) (T.length+1)&&matB E T.length (W.length+1)):=by have e1:decide ((T.length:Int)≤40)=decide (T.length≤40):=decide_eq_decide.2 (by omega);have e2:decide ((W.length:Int)≤500)=decide (W.length≤500):=decide_eq_decide.2 (by omega);simp only [vmB,e1,e2,zhz,List.all_append];cases decide (T.length≤40)<;>cases decide (W.length≤500)<;>cases incS T<;>cases incS W<;>cases T.all nameB<;>cases W.all nameB<;>simp
 rw [hv];refine PCall.walk (rs:=[.tmp 2]) [0,1,2] [] mixed (hΓ) (zg) call23 Tryz.func23 rfl Tryz.ntmps23 rfl (by kernel_rfl) (by simp) (by simp [push_cast,zbQ]) ?_;simp (disch:=first|assumption|(push_cast<;>omega)|omega) only [go_sem,mdlV,i1,i2,m1,m2]
noncomputable def ΔV:FuncId→List V→Hp→Option AR:=zdK 105 (conD zkr) noΔ
theorem zks:zbc Tryz.prog ΔV:=zaT (zbq zom) zg
set_option maxHeartbeats 8000000 in
set_option maxRecDepth 100000 in
theorem ziS(m:Mdl)(h:Fit m):PCall Tryz.prog 64 [mdlV m] (.ret (.bool (vmB m))):=by
 have hΓ:=zf zxt (zf cName_ok (zf cRows_ok zh));obtain⟨tl,wl,nl,el,ts,ws,nr,er,ns,es⟩:=h;obtain⟨T,W,N,E⟩:=m;dsimp only at tl wl nl el ts ws nr er ns es;have m1:=zpn N (T.length+1) (T.length+1) ((T.length:Int)+1) ((T.length:Int)+1) (by omega) (by omega) (by omega) nr ns;have m2:=zpn E T.length (W.length+1) (T.length:Int) ((W.length:Int)+1) rfl (by omega) (by omega) er es;refine PCall.walk (rs:=[.tmp 2]) [0,1,2,3,4,6,30,36,37,38,39,44] [25] mixed (hΓ) (zks) call64 Tryz.func64 rfl Tryz.ntmps64 rfl (by kernel_rfl) (by simp) (by simp [push_cast,zbQ]) ?_;have hb:(decide (40<(T.length:Int))||decide (500<(W.length:Int))|| !incS T|| !incS W)= !(decide (T.length≤40)&&decide (W.length≤500)&&incS T&&incS W):=by
  have e1:decide (40<(T.length:Int))= !decide (T.length≤40):=by
   by_cases h:T.length≤40
   ·simp [h];omega
   ·simp [h];omega
  have e2:decide (500<(W.length:Int))= !decide (W.length≤500):=by
   by_cases h:W.length≤500
   ·simp [h];omega
   ·simp [h];omega
  rw [e1,e2];cases decide (T.length≤40)<;>cases decide (W.length≤500)<;>cases incS T<;>cases incS W<;>rfl
 have hv:vmB ⟨T,W,N,E⟩=((decide (T.length≤40)&&decide (W.length≤500)&&incS T&&incS W)&&((T++W).all nameB&&(matB N (T.length+1) (T.length+1)&&matB E T.length (W.length+1)))):=by simp only [vmB,Bool.and_assoc]
 rw [hv];simp (disch:=first|assumption|(push_cast<;>omega)|omega) only [go_sem,mdlV];rw [hb];cases h0:(decide (T.length≤40)&&decide (W.length≤500)&&incS T&&incS W)with
 |false=>simp (disch:=first|assumption|(push_cast<;>omega)|omega) only [go_sem]
 |true=>
  have hC:=zon 0 T W [(0,.cells [.fs (strs T) T.length,.fs (strs W) W.length])] 1 rfl tl wl rfl;by_cases he:T.length+W.length=0
  ·rw [if_pos he]at hC;have hC':ΔV 105 [.sl 0 0 2 1 (some 2)] ⟨[(0,.cells [.fs (strs T) T.length,.fs (strs W) W.length])],1⟩=_:=hC;obtain rfl:T=[]:=List.eq_nil_of_length_eq_zero (by omega);obtain rfl:W=[]:=List.eq_nil_of_length_eq_zero (by omega);have hC2:ΔV 105 [.sl 0 0 2 1 (some 2)] ⟨[(0,.cells [.fs [] 0,.fs [] 0])],1⟩=some ⟨True,.nilS,⟨[(0,.cells [.fs [] 0,.fs [] 0])],1⟩,[0],[]⟩:=hC';have k1:cRows [.fs (zI N) N.length,.int .i64 1,.int .i64 1]=some (.ret (.bool (matB N 1 1))):=m1;have k2:cRows [.fs (zI E) E.length,.int .i64 0,.int .i64 1]=some (.ret (.bool (matB E 0 1))):=m2;simp (disch:=first|assumption|(push_cast<;>omega)|omega) only [go_sem,hC2];refine AXs.rounds mixed hΓ zks [] (by kernel_rfl) ?_;simp (disch:=first|assumption|(push_cast<;>omega)|omega) only [go_sem];refine AXa.go mixed (hΓ) (zks) (by kernel_rfl) ?_;simp (disch:=first|assumption|(push_cast<;>omega)|omega) only [go_sem,k1,k2]
  rw [if_neg he]at hC;have hC':ΔV 105 [.sl 0 0 2 1 (some 2)] ⟨[(0,.cells [.fs (strs T) T.length,.fs (strs W) W.length])],1⟩=_:=hC;have hlen:(T++W).length=T.length+W.length:=List.length_append;simp (disch:=first|assumption|(push_cast<;>omega)|omega) only [go_sem,hC',hlen];have hpm:∀ x∈[V.fs (strs T) T.length,.fs (strs W) W.length,.fs (zI N) N.length,.fs (zI E) E.length],Pure x:=fun x h=>by
   simp only [List.mem_cons,List.not_mem_nil,or_false]at h;rcases h with rfl|rfl|rfl|rfl
   ·exact .fs (zai _)
   ·exact .fs (zai _)
   ·exact .fs (zaK _)
   ·exact .fs (zaK _)
  generalize hA:T++W=A at*;refine AXs.loop mixed (hΓ) (zks) (fun i:Nat=>[(1,.fp [.fs (strs T) T.length,.fs (strs W) W.length,.fs (zI N) N.length,.fs (zI E) E.length]),(3,.int .i64 T.length),(4,.int .i64 W.length),(36,.sl 1 0 (T.length+W.length) 1 none),(37,.int .i64 (T.length+W.length:Nat)),(38,.int .i64 i)]) (fun _=>⟨[(1,.cells (strs A))],2⟩) (fun i=>i≤A.length∧∀ j,j<i→nameB (A.getD j [])=true) (fun i=>A.length - i) 0 (by kernel_rfl) ⟨Nat.zero_le _,fun j hj=>by omega⟩ (Sub.of0 [] rfl rfl ?_ ?_) ?_
  ·simp only [go_sem];exact hpm
  ·simp only [go_sem]
  rintro i ⟨h1,h2⟩;simp (disch:=first|assumption|(push_cast<;>omega)|omega) only [go_sem];refine AXc.introP (fun h3=>?_) (fun h3=>?_)
  ·have hi:i<A.length:=by omega
   simp (disch:=first|assumption|(push_cast<;>omega)|omega) only [go_sem]
   (repeat refine sdC ?_);cases hn:nameB (A.getD i [])with
   |false=>
    simp (disch:=first|assumption|(push_cast<;>omega)|omega) only [go_sem];rw [zfH hi hn];rfl
   |true=>
    simp (disch:=first|assumption|(push_cast<;>omega)|omega) only [go_sem];refine zo (i+1) ⟨by omega,fun j hj=>?_⟩ (by omega) (Sub.of0 [] rfl rfl ?_ ?_)
    ·by_cases hji:j<i
     ·exact h2 j hji
     ·obtain rfl:j=i:=by omega
      exact hn
    ·simp only [go_sem];refine⟨hpm,?_⟩;simp
    ·simp only [go_sem]
  ·have hi:i=A.length:=by omega
   rw [zfG fun j hj=>h2 j (by omega)];simp (disch:=first|assumption|(push_cast<;>omega)|omega) only [go_sem];refine AXa.go mixed (hΓ) (zks) (by kernel_rfl) ?_;simp (disch:=first|assumption|(push_cast<;>omega)|omega) only [go_sem,m1,m2]
end Go.Proofs
