/- Lists of tags with their numbers: comparing, copying, the better one, one step. -/
import Derived.Test.YthbimeikbkjnkaaGreatDoorBT13
set_option linter.all false
namespace Go.Proofs
open Go.Ab Go.Cnt Go.Pl Go.Tg
theorem nanI_ok(n:Int):PCall Tryz.prog 159 [.int .i64 n] (.ret (.bool false)):=by refine PCall.walk (rs:=[.tmp 2]) [0,2] [] mixed (zh) (zf) zyx Tryz.func159 rfl Tryz.ntmps159 rfl (by kernel_rfl) (by simp) (by simp [push_cast]) ?_;simp only [go_sem]
noncomputable def cNanI:List V→Option PR:=zB (fun a:Int=>[.int .i64 a]) (fun _=>True) fun _=>.ret (.bool false)
@[go_sem] theorem cNanI_eq(a:Int):cNanI [.int .i64 a]=some (.ret (.bool false)):=zo (pat:=fun a:Int=>[.int .i64 a]) (fun x y h=>by simpa using h) a trivial
theorem cNanI_ok:∀ args r,cNanI args=some r→PCall Tryz.prog 159 args r:=zn fun a _=>nanI_ok a
def cmpN(a b:Nat):Int:=if a<b then -1 else if b<a then 1 else 0
theorem cmpI_ok(a b:Nat):PCall Tryz.prog 118 [.int .i64 a,.int .i64 b] (.ret (.int .i64 (cmpN a b))):=by
 obtain⟨R,hR⟩:∃ R,R=cmpN a b:=⟨_,rfl⟩;rw [←hR];unfold cmpN at hR;refine PCall.walk (rs:=[.tmp 4]) [0,1,4,5,6,11,12,13,16,19] [] mixed (zg cNanI_ok zh) (zf) zyA Tryz.func118 rfl Tryz.ntmps118 rfl (by kernel_rfl) (by simp) (by simp [push_cast]) ?_;simp only [go_sem];refine AXc.introP (fun h1=>?_) (fun h1=>?_)
 ·rw [if_pos (by omega)]at hR;rw [hR];simp only [go_sem]
 ·rw [if_neg (by omega)]at hR;simp only [go_sem];refine AXc.introP (fun h2=>?_) (fun h2=>?_)
  ·rw [if_pos (by omega)]at hR;rw [hR];simp only [go_sem]
  ·rw [if_neg (by omega)]at hR;rw [hR];simp only [go_sem]
noncomputable def cCmpI:List V→Option PR:=zB (fun p:Nat×Nat=>[.int .i64 p.1,.int .i64 p.2]) (fun _=>True) fun p=>.ret (.int .i64 (cmpN p.1 p.2))
@[go_sem] theorem cCmpI_eq(a b:Nat):cCmpI [.int .i64 a,.int .i64 b]=some (.ret (.int .i64 (cmpN a b))):=zo (pat:=fun p:Nat×Nat=>[.int .i64 p.1,.int .i64 p.2]) (fun x y h=>by simp only [List.cons.injEq,V.int.injEq,true_and,and_true]at h;exact Prod.ext (by omega) (by omega)) (a,b) trivial
theorem cCmpI_ok:∀ args r,cCmpI args=some r→PCall Tryz.prog 118 args r:=zn fun p _=>cmpI_ok p.1 p.2
theorem zfg:∀(i:Nat) (a b:List Nat),(∀ j,j<i→a.getD j 0=b.getD j 0)→i≤a.length→i≤b.length→cmpL a b=cmpL (a.drop i) (b.drop i)
 |0,_,_,_,_,_=>rfl
 |i+1,[],_,_,h,_=>by simp at h
 |i+1,_::_,[],_,_,h=>by simp at h
 |i+1,x::a,y::b,h,h1,h2=>by
  have e:x=y:=by simpa using h 0 (by omega)
  rw [cmpL,if_neg (by omega),if_neg (by omega)];exact zfg i a b (fun j hj=>by simpa using h (j+1) (by omega)) (by simpa using h1) (by simpa using h2)
theorem cmpL_at {i:Nat}{a b:List Nat}(h:∀ j,j<i→a.getD j 0=b.getD j 0)(h1:i<a.length)(h2:i<b.length)(hn:cmpN (a.getD i 0) (b.getD i 0)≠0):cmpL a b=cmpN (a.getD i 0) (b.getD i 0):=by
 rw [zfg i a b h (by omega) (by omega),List.drop_eq_getElem_cons h1,List.drop_eq_getElem_cons h2,cmpL];rw [List.getD_eq_getElem?_getD,List.getElem?_eq_getElem h1,List.getD_eq_getElem?_getD,List.getElem?_eq_getElem h2]at hn ⊢;unfold cmpN at hn ⊢;simp only [Option.getD_some]at hn ⊢;by_cases k1:a[i]<b[i]
 ·rw [if_pos k1,if_pos k1]
 ·rw [if_neg k1,if_neg k1];by_cases k2:b[i]<a[i]
  ·rw [if_pos k2,if_pos k2]
  ·rw [if_neg k1,if_neg k2]at hn;exact absurd rfl hn
theorem zo2 {a b:List Nat}(h:∀ j,j<b.length→a.getD j 0=b.getD j 0)(h1:b.length<a.length):cmpL a b=1:=by rw [zfg b.length a b h (by omega) (Nat.le_refl _),List.drop_length,List.drop_eq_getElem_cons h1];rfl
theorem cmpL_end {a b:List Nat}(h:∀ j,j<a.length→a.getD j 0=b.getD j 0)(h1:a.length≤b.length):cmpL a b=if a.length<b.length then -1 else 0:=by
 rw [zfg a.length a b h (Nat.le_refl _) h1,List.drop_length];split
 ·rename_i h2;rw [List.drop_eq_getElem_cons h2];rfl
 ·rw [List.drop_of_length_le (by omega)];rfl
theorem zya {a b:Nat}(h:cmpN a b=0):a=b:=by
 unfold cmpN at h;by_cases h1:a<b
 ·rw [if_pos h1]at h;omega
 ·rw [if_neg h1]at h;by_cases h2:b<a
  ·rw [if_pos h2]at h;omega
  ·omega
set_option maxHeartbeats 4000000 in
theorem zo1(a b:List Nat)(ha:a.length≤1000000)(hb:b.length≤1000000):PCall Tryz.prog 71 [.fs (nats .i64 a) a.length,.fs (nats .i64 b) b.length] (.ret (.int .i64 (cmpL a b))):=by
 have hΓ:=zg cCmpI_ok zh;obtain⟨R,hR⟩:∃ R,R=cmpL a b:=⟨_,rfl⟩;rw [←hR];refine PCall.walk (rs:=[.tmp 4]) [0,1,4,5,6,7,8,9,10,11,12,19,28,35] [] mixed (hΓ) (zf) call71 Tryz.func71 rfl Tryz.ntmps71 rfl (by kernel_rfl) (by simp) (by simp [push_cast]) ?_;simp only [go_sem];refine AXs.loop mixed (hΓ) (zf) (fun i:Nat=>[(0,.fs (nats .i64 a) a.length),(1,.fs (nats .i64 b) b.length),(9,.fs (nats .i64 a) a.length),(10,.int .i64 a.length),(11,.int .i64 i)]) (fun _=>⟨[],0⟩) (fun i=>i≤a.length∧i≤b.length∧∀ j,j<i→a.getD j 0=b.getD j 0) (fun i=>a.length - i) 0 (by kernel_rfl) ⟨Nat.zero_le _,Nat.zero_le _,fun j hj=>by omega⟩ (Sub.of0 [] rfl rfl ?_ ?_) ?_
 ·simp only [go_sem]
 ·simp only [go_sem]
 rintro i ⟨h1,h2,h3⟩;simp only [go_sem];refine AXc.introP (fun h4=>?_) (fun h4=>?_)
 ·have hi:i<a.length:=by omega
  simp (disch:=first|assumption|(push_cast<;>omega)|omega) only [go_sem]
  (repeat refine sdC ?_);refine AXc.introP (fun h5=>?_) (fun h5=>?_)
  ·have e:i=b.length:=by omega
   subst e;rw [hR,zo2 h3 hi];simp (disch:=first|assumption|(push_cast<;>omega)|omega) only [go_sem]
  ·simp (disch:=first|assumption|(push_cast<;>omega)|omega) only [go_sem]
   (repeat refine sdC ?_);refine AXc.introN (fun h6=>?_) (fun h6=>?_)
   ·rw [hR,cmpL_at h3 hi (by omega) h6];simp (disch:=first|assumption|(push_cast<;>omega)|omega) only [go_sem]
   ·simp (disch:=first|assumption|(push_cast<;>omega)|omega) only [go_sem];refine zk (i+1) ⟨by omega,by omega,fun j hj=>?_⟩ (by omega) (Sub.of0 [] rfl rfl ?_ ?_)
    ·by_cases hji:j<i
     ·exact h3 j hji
     ·obtain rfl:j=i:=by omega
      exact zya h6
    ·simp only [go_sem];simp
    ·simp only [go_sem]
 ·obtain rfl:i=a.length:=by omega
  have e:=cmpL_end h3 h2;rw [hR,e];simp only [go_sem];refine AXa.go mixed (hΓ) (zf) (by kernel_rfl) ?_;simp only [go_sem];refine AXc.introP (fun h6=>?_) (fun h6=>?_)
  ·rw [if_pos (by omega)];simp only [go_sem]
  ·rw [if_neg (by omega)];simp only [go_sem]
noncomputable def cCmpL:List V→Option PR:=zB (fun p:List Nat×List Nat=>[.fs (nats .i64 p.1) p.1.length,.fs (nats .i64 p.2) p.2.length]) (fun p=>p.1.length≤1000000∧p.2.length≤1000000) fun p=>.ret (.int .i64 (cmpL p.1 p.2))
theorem cCmpL_eq(a b:List Nat)(ha:a.length≤1000000)(hb:b.length≤1000000):cCmpL [.fs (nats .i64 a) a.length,.fs (nats .i64 b) b.length]=some (.ret (.int .i64 (cmpL a b))):=
 zo (pat:=fun p:List Nat×List Nat=>[.fs (nats .i64 p.1) p.1.length,.fs (nats .i64 p.2) p.2.length]) (fun x y h=>by simp only [List.cons.injEq,V.fs.injEq,and_true]at h;exact Prod.ext (zah h.1.1) (zah h.2.1)) (a,b) ⟨ha,hb⟩
theorem cCmpL_ok:∀ args r,cCmpL args=some r→PCall Tryz.prog 71 args r:=zn fun p h=>zo1 p.1 p.2 h.1 h.2
def tgV(l:List Nat):V:=if l=[]then .nilS else .fs (nats .i64 l) l.length
def tlV(x:TL):V:=.agg [.str x.1,tgV x.2]
theorem znF:tgV []=.nilS:=rfl
theorem zlp {l:List Nat}(h:l≠[]):tgV l=.fs (nats .i64 l) l.length:=if_neg h
theorem zpM(l:List Nat):Pure (tgV l):=by
 unfold tgV;split
 ·exact .nilS
 ·exact .fs (zU _ _)
theorem tgV_inj {a b:List Nat}(h:tgV a=tgV b):a=b:=by
 unfold tgV at h;split at h<;>split at h
 ·rename_i h1 h2;rw [h1,h2]
 ·cases h
 ·cases h
 ·simp only [V.fs.injEq]at h;exact zah h.1
theorem znE {a b:TL}(h:tlV a=tlV b):a=b:=by simp only [tlV,V.agg.injEq,List.cons.injEq,V.str.injEq,and_true]at h;exact Prod.ext h.1 (tgV_inj h.2)
theorem zba(x:TL):Pure (tlV x):=.agg fun v h=>by
 simp only [List.mem_cons,List.not_mem_nil,or_false]at h;rcases h with rfl|rfl
 ·exact .str _
 ·exact zpM _
theorem tgV_one(l:List Nat):(tgV l).one=true:=by unfold tgV;split<;>rfl
theorem tgV_refs(l:List Nat):zdI (tgV l)=[]:=by unfold tgV;split<;>rfl
theorem nz_tgV(l:List Nat):nz (tgV l)=.fs (nats .i64 l) l.length:=by
 by_cases h:l=[]
 ·subst h;rfl
 ·rw [zlp h];rfl
attribute [go_sem] tgV_one tgV_refs nz_tgV
set_option maxHeartbeats 8000000 in
theorem betT_ok(x y:TL)(lx:x.1.length≤1000000000)(ly:y.1.length≤1000000000)(mx:x.2.length≤1000000)(my:y.2.length≤1000000):PCall Tryz.prog 40 [tlV x,tlV y] (.ret (tlV (betT x y))):=by
 have hΓ:=zg zjc (zg cCmpL_ok zh);have c1:=zt1 x.1 y.1 lx ly;have c2:=cCmpL_eq y.2 x.2 my mx;obtain⟨R,hR⟩:∃ R,R=betT x y:=⟨_,rfl⟩;rw [←hR];unfold betT at hR;refine PCall.walk (rs:=[.cell 4 67]) [0,1,2,3,4,5,29] [67] mixed (hΓ) (zf) call40 Tryz.func40 rfl Tryz.ntmps40 rfl (by kernel_rfl) (by simp) (by simp [push_cast,zba]) ?_;obtain⟨p,a⟩:=x;obtain⟨q,b⟩:=y;unfold tlV;dsimp only at c1 c2 hR ⊢;simp (disch:=first|assumption|(push_cast<;>omega)|omega) only [go_sem,c1,c2];refine⟨fun h=>⟨h,fun k=>by rw [h,k];rfl⟩,fun h=>⟨h,fun k=>by rw [h,k];rfl⟩,?_⟩;have hd:(decide (zaD p q<0)||decide (zaD p q=0)&& !decide (q=[48])&&decide (cmpL b a<0))=decide (zaD p q<0∨zaD p q=0∧q≠[48]∧cmpL b a<0):=by rw [Bool.eq_iff_iff];simp [and_assoc]
 rw [hd];refine AXc.introP (fun h=>?_) (fun h=>?_)
 ·rw [if_pos h]at hR;rw [hR];simp (disch:=first|assumption|(push_cast<;>omega)|omega) only [go_sem];exact .pure (zba (q,b))
 ·rw [if_neg h]at hR;rw [hR];simp (disch:=first|assumption|(push_cast<;>omega)|omega) only [go_sem];exact .pure (zba (p,a))
noncomputable def cBetT:List V→Option PR:=zB (fun p:TL×TL=>[tlV p.1,tlV p.2]) (fun p=>(p.1.1.length≤1000000000∧p.2.1.length≤1000000000)∧p.1.2.length≤1000000∧p.2.2.length≤1000000) fun p=>.ret (tlV (betT p.1 p.2))
theorem zq5(x y:TL)(lx:x.1.length≤1000000000)(ly:y.1.length≤1000000000)(mx:x.2.length≤1000000)(my:y.2.length≤1000000):cBetT [tlV x,tlV y]=some (.ret (tlV (betT x y))):=
 zo (pat:=fun p:TL×TL=>[tlV p.1,tlV p.2]) (fun a b h=>by simp only [List.cons.injEq,and_true]at h;exact Prod.ext (znE h.1) (znE h.2)) (x,y) ⟨⟨lx,ly⟩,mx,my⟩
theorem cBetT_ok:∀ args r,cBetT args=some r→PCall Tryz.prog 40 args r:=zn fun p h=>betT_ok p.1 p.2 h.1.1 h.1.2 h.2.1 h.2.2
theorem eq_fsN {l:List Nat}(h:l≠[])(H:Hp):aBin Tryz.prog .eql 38 (.fs (nats .i64 l) l.length) .nilS H=⟨True,.bool false,H,[],[]⟩:=by obtain⟨d,r,rfl⟩:=List.exists_cons_of_ne_nil h;simp [aBin,xEq,eqV,Tryz.underlying38,XR.ar]
theorem eq_nilN(H:Hp):aBin Tryz.prog .eql 38 .nilS .nilS H=⟨True,.bool true,H,[],[]⟩:=by simp [aBin,xEq,eqV,Tryz.underlying38,XR.ar]
set_option maxHeartbeats 4000000 in
theorem zyf(l:List Nat)(hl:l.length≤1000000)(hne:l≠[]):NCall Tryz.prog 38 [.fs (nats .i64 l) l.length] [] [] (.sl 0 0 l.length 1 none) ⟨[(0,.cells (nats .i64 l))],1⟩:=by
 have hp:0<l.length:=List.length_pos_iff.2 hne;have h0:(l.length=0)=False:=eq_false (by omega);have h1:(l.length≤0)=False:=eq_false (by omega);refine NCall.walk (rs:=[.tmp 2]) [0,2,4] [] 0 mixed (zh) (zf) call38 Tryz.func38 rfl Tryz.ntmps38 rfl (by kernel_rfl) (by simp) (by simp) (by simp) ?_;simp (disch:=first|assumption|(push_cast<;>omega)|omega) only [go_sem,eq_fsN hne,h0,h1,if_false];refine⟨⟨by omega,by omega⟩,[(2,.sl 0 0 l.length 1 none)],Sub.of [(0,1)] rfl ?_ ?_ (by decide) (fun b hb _=>absurd hb (Nat.not_lt_zero b)),rfl⟩
 ·simp only [go_sem]
 ·simp only [go_sem]
theorem zyc:NCall Tryz.prog 38 [.nilS] [] [] .nilS ⟨[],0⟩:=by
 refine NCall.walk (rs:=[.tmp 2]) [0,2,4] [] 0 mixed (zh) (zf) call38 Tryz.func38 rfl Tryz.ntmps38 rfl (by kernel_rfl) (by simp) (by simp) (by simp) ?_;simp (disch:=first|assumption|(push_cast<;>omega)|omega) only [go_sem,eq_nilN];exact⟨[(2,.nilS)],Sub.of [] rfl (by simp only [go_sem]) (by simp only [go_sem]) (by decide) (fun b hb _=>absurd hb (Nat.not_lt_zero b)),rfl⟩
def zrm(args:List V)(H:Hp)(r:AR):Prop:=(∀ b x,H.get b=some x→b<H.next)∧((args=[.nilS]∧r=⟨True,.nilS,H,[],[]⟩)∨
 ∃ l:List Nat,l≠[]∧l.length≤1000000∧args=[.fs (nats .i64 l) l.length]∧r=⟨True,.sl H.next 0 l.length 1 none,⟨(H.next,.cells (nats .i64 l))::H.bs,H.next+1⟩,[],[]⟩)
theorem zyd:∀ args H r,zrm args H r→HCall Tryz.prog 38 args H r:=by
 rintro args H r ⟨hk,h⟩;rcases h with⟨rfl,rfl⟩|⟨l,hne,hl,rfl,rfl⟩
 ·exact HCall.plain zyc .nilS (fun x hx=>by rw [List.mem_singleton.1 hx];exact .nilS) H hk
 ·exact HCall.fresh (zyf l hl hne) (zU _ _) [] _ H rfl .nil (zt fun x hx=>by rw [List.mem_singleton.1 hx];exact .fs (zU _ _)) (fun i x hx=>by simp at hx) (fun i x hx=>by simp at hx) hk
theorem zja(bs:List (Nat×Blk))(n:Nat)(hk:((keysB bs).all fun b=>decide (b<n))=true):conD zrm [.nilS] ⟨bs,n⟩=some ⟨True,.nilS,⟨bs,n⟩,[],[]⟩:=by
 refine zaI ⟨zbD hk,.inl ⟨rfl,rfl⟩⟩ fun r' ⟨_,h⟩=>?_;rcases h with⟨_,e⟩|⟨l,_,_,e,_⟩
 ·exact e
 ·cases e
theorem zye(l:List Nat)(bs:List (Nat×Blk))(n:Nat)(hl:l.length≤1000000)(hne:l≠[])(hk:((keysB bs).all fun b=>decide (b<n))=true):conD zrm [.fs (nats .i64 l) l.length] ⟨bs,n⟩=some ⟨True,.sl n 0 l.length 1 none,⟨(n,.cells (nats .i64 l))::bs,n+1⟩,[],[]⟩:=by
 refine zaI ⟨zbD hk,.inr ⟨l,hne,hl,rfl,rfl⟩⟩ fun r' ⟨_,h⟩=>?_;rcases h with⟨e,_⟩|⟨l',_,_,e,e'⟩
 ·cases e
 ·simp only [List.cons.injEq,V.fs.injEq,and_true]at e;rw [e',zah e.1]
noncomputable def ΔS:FuncId→List V→Hp→Option AR:=zcT 36 (conD (zAM ziT)) (zcT 38 (conD zrm) noΔ)
theorem ΔS_ok:za5 Tryz.prog ΔS:=zaC (za1 (zks ziT fun x r h=>zuW r x.1 x.2 h.1 h.2)) (zaC (za1 zyd) zf)
theorem zlh(b:Nat)(r:Run)(p q:Str)(bs:List (Nat×Blk))(n:Nat)(lp:p.length≤1000000000)(lq:q.length≤1000000000)(hb:zaH bs b=some (.cells (runC r)))(hk:((keysB bs).all fun b=>decide (b<n))=true):
 ΔS 36 [.ptr b 0,.str p,.str q] ⟨bs,n⟩=some ⟨True,.str (tm r.f p q).1,(⟨bs,n⟩:Hp).put b (.cells (runC ⟨r.m,r.cs,(tm r.f p q).2⟩)),[b],[b]⟩:=zkt ziT (x:=(p,q)) (s:=r) ⟨lp,lq⟩ hb hk
def jV(j:List Nat):Int:=match j with|[]=> -1|k::_=>k
set_option maxHeartbeats 8000000 in
set_option maxRecDepth 100000 in
theorem stL_N0(r:Run)(u:TL)(j:List Nat)(hj:j=[]∨∃ k,j=[k])(q:Str)(lu:u.1.length≤1000000000)(lq:q.length≤1000000000)(mu:u.2.length≤1000000)(ht:(tm r.f u.1 q).1≠[48])(hne:u.2++j≠[]):
 NCall Tryz.prog 37 [tlV u,.int .i64 (jV j),.str q,.ptr 1 0] [.cells (runC r),.cells [.ptr 0 0]] [0] (.agg [.str (tm r.f u.1 q).1,.sl 2 0 (u.2++j).length 1 none]) ⟨[(3,.cells [.str (tm r.f u.1 q).1,.sl 2 0 (u.2++j).length 1 none]),(2,.cells (nats .i64 (u.2++j))),(0,.cells (runC ⟨r.m,r.cs,(tm r.f u.1 q).2⟩)),(1,.cells [.ptr 0 0])],4⟩:=by
 obtain⟨p,a⟩:=u
 dsimp only at lu mu ht hne ⊢
 have t1:ΔS 36 [.ptr 0 0,.str p,.str q] ⟨[(2,.cells [.str [],.nilS]),(0,.cells (runC r)),(1,.cells [.ptr 0 0])],3⟩=some ⟨True,.str (tm r.f p q).1,⟨[(2,.cells [.str [],.nilS]),(0,.cells (runC ⟨r.m,r.cs,(tm r.f p q).2⟩)),(1,.cells [.ptr 0 0])],3⟩,[0],[0]⟩:=zlh 0 r p q _ 3 lu lq rfl rfl
 unfold tlV
 refine NCall.walkW (rs:=[.cell 7 67]) [0,1,2,3,4,7,8,15,22] [67] 2 [0] mixed (zh) (ΔS_ok) call37 Tryz.func37 rfl Tryz.ntmps37 rfl (by kernel_rfl) (by simp) (by simp) (by simp) (by simp) ?_
 simp (disch:=first|assumption|(push_cast<;>omega)|omega) only [go_sem,t1]
 generalize tm r.f p q=z at ht ⊢
 obtain⟨z1,z2⟩:=z
 dsimp only at ht ⊢
 refine⟨rfl,?_⟩
 refine AXc.introP (fun h=>absurd h ht) (fun h=>?_)
 by_cases ha:a=[]
 ·subst ha
  rcases hj with rfl|⟨k,rfl⟩
  ·exact absurd rfl hne
  have c1:ΔS 38 [.nilS] ⟨[(2,.cells [.str [],.nilS]),(0,.cells (runC ⟨r.m,r.cs,z2⟩)),(1,.cells [.ptr 0 0])],3⟩=some ⟨True,.nilS,⟨[(2,.cells [.str [],.nilS]),(0,.cells (runC ⟨r.m,r.cs,z2⟩)),(1,.cells [.ptr 0 0])],3⟩,[],[]⟩:=zja _ _ rfl
  have e1:decide (0≤(k:Int))=true:=decide_eq_true (by omega)
  simp (disch:=first|assumption|(push_cast<;>omega)|omega) only [go_sem,znF,c1,jV,e1,List.nil_append]
  refine⟨[(7,.ptr 3 0)],Sub.of [(3,2),(2,4)] rfl ?_ ?_ (by decide) (fun b hb hw=>?_),?_⟩
  ·simp only [go_sem]
  ·simp only [go_sem]
   rfl
  ·rcases b with _|_|b
   ·exact absurd (List.mem_singleton.2 rfl) hw
   ·rfl
   ·exact absurd hb (by simp)
  ·simp only [go_sem]
 ·have c1:ΔS 38 [.fs (nats .i64 a) a.length] ⟨[(2,.cells [.str [],.nilS]),(0,.cells (runC ⟨r.m,r.cs,z2⟩)),(1,.cells [.ptr 0 0])],3⟩=some ⟨True,.sl 3 0 a.length 1 none,⟨[(3,.cells (nats .i64 a)),(2,.cells [.str [],.nilS]),(0,.cells (runC ⟨r.m,r.cs,z2⟩)),(1,.cells [.ptr 0 0])],4⟩,[],[]⟩:=zye a _ _ mu ha rfl
  rcases hj with rfl|⟨k,rfl⟩
  ·simp (disch:=first|assumption|(push_cast<;>omega)|omega) only [go_sem,zlp ha,c1,jV,List.append_nil]
   refine⟨[(7,.ptr 3 0)],Sub.of [(3,2),(2,3)] rfl ?_ ?_ (by decide) (fun b hb hw=>?_),?_⟩
   ·simp only [go_sem]
   ·simp only [go_sem]
   ·rcases b with _|_|b
    ·exact absurd (List.mem_singleton.2 rfl) hw
    ·rfl
    ·exact absurd hb (by simp)
   ·simp only [go_sem]
  ·have e1:decide (0≤(k:Int))=true:=decide_eq_true (by omega)
   have tk:List.take a.length a=a:=List.take_length
   have nl:(a++[k]).length=a.length+1:=by simp
   simp (disch:=first|assumption|(push_cast<;>omega)|omega) only [go_sem,zlp ha,c1,jV,e1]
   rw [nl]
   refine⟨⟨by omega,by omega⟩,[(7,.ptr 3 0)],Sub.of [(3,2),(2,5)] rfl ?_ ?_ (by decide) (fun b hb hw=>?_),?_⟩
   ·simp only [go_sem]
   ·simp only [go_sem,tk]
   ·rcases b with _|_|b
    ·exact absurd (List.mem_singleton.2 rfl) hw
    ·rfl
    ·exact absurd hb (by simp)
   ·simp only [go_sem]
set_option maxHeartbeats 8000000 in
set_option maxRecDepth 100000 in
theorem stL_NZ(r:Run)(u:TL)(j:List Nat)(hj:j=[]∨∃ k,j=[k])(q:Str)(lu:u.1.length≤1000000000)(lq:q.length≤1000000000)(mu:u.2.length≤1000000)(hz:(tm r.f u.1 q).1=[48]∨u.2++j=[]):
 NCall Tryz.prog 37 [tlV u,.int .i64 (jV j),.str q,.ptr 1 0] [.cells (runC r),.cells [.ptr 0 0]] [0] (.agg [.str (tm r.f u.1 q).1,.nilS]) ⟨[(2,.cells [.str (tm r.f u.1 q).1,.nilS]),(0,.cells (runC ⟨r.m,r.cs,(tm r.f u.1 q).2⟩)),(1,.cells [.ptr 0 0])],3⟩:=by
 obtain⟨p,a⟩:=u
 dsimp only at lu mu hz ⊢
 have t1:ΔS 36 [.ptr 0 0,.str p,.str q] ⟨[(2,.cells [.str [],.nilS]),(0,.cells (runC r)),(1,.cells [.ptr 0 0])],3⟩=some ⟨True,.str (tm r.f p q).1,⟨[(2,.cells [.str [],.nilS]),(0,.cells (runC ⟨r.m,r.cs,(tm r.f p q).2⟩)),(1,.cells [.ptr 0 0])],3⟩,[0],[0]⟩:=zlh 0 r p q _ 3 lu lq rfl rfl
 unfold tlV
 refine NCall.walkW (rs:=[.cell 7 67]) [0,1,2,3,4,7,8,15,22] [67] 2 [0] mixed (zh) (ΔS_ok) call37 Tryz.func37 rfl Tryz.ntmps37 rfl (by kernel_rfl) (by simp) (by simp) (by simp) (by simp) ?_
 simp (disch:=first|assumption|(push_cast<;>omega)|omega) only [go_sem,t1]
 generalize tm r.f p q=z at hz ⊢
 obtain⟨z1,z2⟩:=z
 dsimp only at hz ⊢
 refine⟨rfl,?_⟩
 refine AXc.introP (fun h=>?_) (fun h=>?_)
 ·simp (disch:=first|assumption|(push_cast<;>omega)|omega) only [go_sem]
  refine⟨[(7,.ptr 2 0)],Sub.of [] rfl ?_ ?_ (by decide) (fun b hb hw=>?_),?_⟩
  ·simp only [go_sem]
  ·simp only [go_sem]
  ·rcases b with _|_|b
   ·exact absurd (List.mem_singleton.2 rfl) hw
   ·rfl
   ·exact absurd hb (by simp)
  ·simp only [go_sem]
 ·have hnil:=hz.resolve_left h
  obtain⟨rfl,rfl⟩:=List.append_eq_nil_iff.1 hnil
  have c1:ΔS 38 [.nilS] ⟨[(2,.cells [.str [],.nilS]),(0,.cells (runC ⟨r.m,r.cs,z2⟩)),(1,.cells [.ptr 0 0])],3⟩=some ⟨True,.nilS,⟨[(2,.cells [.str [],.nilS]),(0,.cells (runC ⟨r.m,r.cs,z2⟩)),(1,.cells [.ptr 0 0])],3⟩,[],[]⟩:=zja _ _ rfl
  simp (disch:=first|assumption|(push_cast<;>omega)|omega) only [go_sem,znF,c1,jV]
  refine⟨[(7,.ptr 2 0)],Sub.of [] rfl ?_ ?_ (by decide) (fun b hb hw=>?_),?_⟩
  ·simp only [go_sem]
  ·simp only [go_sem]
  ·rcases b with _|_|b
   ·exact absurd (List.mem_singleton.2 rfl) hw
   ·rfl
   ·exact absurd hb (by simp)
  ·simp only [go_sem]
theorem zuQ {A B:Blk}{rest:List (Nat×Blk)}{n:Nat}(h:∀ b,b<2→rest.lookup b=none):∀ b x',(⟨[(0,A),(1,B)],2⟩:Hp).get b=some x'→b<2∧(⟨rest++[(0,A),(1,B)],n⟩:Hp).get b=some x':=by
 intro b x' e;have e':([(0,A),(1,B)]:List (Nat×Blk)).lookup b=some x':=e;have hb:b<2:=by
  rcases b with _|_|b
  ·omega
  ·omega
  ·simp [List.lookup]at e'
 refine⟨hb,?_⟩;show (rest++[(0,A),(1,B)]).lookup b=some x';rw [List.lookup_append,h b hb];exact e'
theorem stL_N(r:Run)(u:TL)(j:List Nat)(hj:j=[]∨∃ k,j=[k])(q:Str)(lu:u.1.length≤1000000000)(lq:q.length≤1000000000)(mu:u.2.length≤1000000):
 NCall Tryz.prog 37 [tlV u,.int .i64 (jV j),.str q,.ptr 1 0] [.cells (runC r),.cells [.ptr 0 0]] [0] (tlV (stL r.f u j q).1) ⟨[(0,.cells (runC ⟨r.m,r.cs,(stL r.f u j q).2⟩)),(1,.cells [.ptr 0 0])],2⟩:=by
 have hrn:∀ {N:Nat→Prop} {f:Int},RnB id N (.cells (runC ⟨r.m,r.cs,f⟩)) (.cells (runC ⟨r.m,r.cs,f⟩)):=.cells (zt (zbi _))
 have hpp:∀ {N:Nat→Prop},N 0→RnB id N (.cells [.ptr 0 0]) (.cells [.ptr 0 0]):=fun h=>.cells (zbm (r:=[]) h rfl (by simp))
 have fin:∀ {rest:List (Nat×Blk)} {n:Nat} {f:Int} (fl:List Nat) (hfl:∀ b∈fl,2≤b) (h:∀ b,b<2→rest.lookup b=none),∀ b x',(⟨[(0,.cells (runC ⟨r.m,r.cs,f⟩)),(1,.cells [.ptr 0 0])],2⟩:Hp).get b=some x'→b<2∧¬b∈fl∧∃ x,(⟨rest++[(0,.cells (runC ⟨r.m,r.cs,f⟩)),(1,.cells [.ptr 0 0])],n⟩:Hp).get b=some x∧FzB (⟨rest++[(0,.cells (runC ⟨r.m,r.cs,f⟩)),(1,.cells [.ptr 0 0])],n⟩:Hp) (· ∈fl) 2 x' x:=by
  intro rest n f fl hfl h b x' e;obtain⟨hb,e2⟩:=zuQ (n:=n) h b x' e;refine⟨hb,fun hk=>by have:=hfl b hk;omega,x',e2,.inl ?_⟩;have e':([(0,Blk.cells (runC ⟨r.m,r.cs,f⟩)),(1,.cells [.ptr 0 0])]:List (Nat×Blk)).lookup b=some x':=e;rcases b with _|_|b
  ·cases e';exact hrn
  ·cases e';exact hpp ⟨fun hk=>by have:=hfl 0 hk;omega,by omega⟩
  ·omega
 have hw0:∀ {rest:List (Nat×Blk)} {n:Nat} {f:Int} (h:∀ b,b<2→rest.lookup b=none),∀ b∈[0],∃ x,(⟨rest++[(0,.cells (runC ⟨r.m,r.cs,f⟩)),(1,.cells [.ptr 0 0])],n⟩:Hp).get b=some x:=by intro rest n f h b hb;obtain rfl:=List.mem_singleton.1 hb;refine⟨.cells (runC ⟨r.m,r.cs,f⟩),?_⟩;show (rest++_).lookup 0=_;rw [List.lookup_append,h 0 (by omega)];rfl
 have hel:∀ {rest:List (Nat×Blk)} {n:Nat} {f:Int} (h:∀ b,b<2→rest.lookup b=none),∀ b,b<2→(⟨[(0,.cells (runC ⟨r.m,r.cs,f⟩)),(1,.cells [.ptr 0 0])],2⟩:Hp).get b=(⟨rest++[(0,.cells (runC ⟨r.m,r.cs,f⟩)),(1,.cells [.ptr 0 0])],n⟩:Hp).get b:=by intro rest n f h b hb;show _=(rest++_).lookup b;rw [List.lookup_append,h b hb];rfl
 by_cases hz:(tm r.f u.1 q).1=[48]∨u.2++j=[]
 ·have hN:=stL_NZ r u j hj q lu lq mu hz
  have hl:∀ b,b<2→([(2,.cells [.str (tm r.f u.1 q).1,.nilS])]:List (Nat×Blk)).lookup b=none:=fun b hb=>by
   rcases b with _|_|b
   ·rfl
   ·rfl
   ·omega
  have hst:stL r.f u j q=(((tm r.f u.1 q).1,[]),(tm r.f u.1 q).2):=by
   unfold stL;split
   ·rfl
   ·rename_i h;rw [hz.resolve_left h]
  rw [hst]
  refine hN.freeze [] (fun b hb=>by cases hb) (hw0 (rest:=[_]) hl) (.inr (.pure (zba (_,[])))) (fin (rest:=[_]) [] (fun b hb=>by cases hb) hl) (hel (rest:=[_]) hl) (Nat.le_refl _)
 ·have hn:(tm r.f u.1 q).1≠[48]∧u.2++j≠[]:=⟨fun h=>hz (.inl h),fun h=>hz (.inr h)⟩
  have hN:=stL_N0 r u j hj q lu lq mu hn.1 hn.2
  have hl:∀ b,b<2→([(3,.cells [.str (tm r.f u.1 q).1,.sl 2 0 (u.2++j).length 1 none]),(2,.cells (nats .i64 (u.2++j)))]:List (Nat×Blk)).lookup b=none:=fun b hb=>by
   rcases b with _|_|b
   ·rfl
   ·rfl
   ·omega
  have hst:stL r.f u j q=(((tm r.f u.1 q).1,u.2++j),(tm r.f u.1 q).2):=by unfold stL;rw [if_neg hn.1]
  rw [hst]
  refine hN.freeze [2] (fun b hb=>?_) (hw0 (rest:=[_,_]) hl) (.inr ?_) (fin (rest:=[_,_]) [2] (fun b hb=>by rw [List.mem_singleton.1 hb];exact Nat.le_refl _) hl) (hel (rest:=[_,_]) hl) (Nat.le_refl _)
  ·rw [List.mem_singleton.1 hb]
   exact⟨Nat.le_refl _,_,rfl⟩
  ·unfold tlV
   rw [zlp hn.2]
   refine .agg rfl fun i x y hx hy=>?_
   match i with
   |0=>cases hx;cases hy;exact .pure (.str _)
   |1=>cases hx;cases hy;exact FrzF.slp (by simp) rfl rfl (by simp [nats]) (by rw [List.drop_zero,Nat.mul_one];exact(List.take_of_length_le (by simp [nats])).symm) (zU _ _)
   |i+2=>simp at hx
end Go.Proofs
