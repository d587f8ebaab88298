/- Rules for maps whose keys are strings and whose values are integers; for storing under a key that is a pair of strings. -/
import Derived.Test.YthbimeikbkjnkaaGreatDoorCT21
set_option linter.all false
set_option maxHeartbeats 16000000
set_option maxRecDepth 100000
namespace Go.Ab
open Go.Cnt
variable {P:Program}{C:Cfg}{env:Env}{H:Hp}
def znR:=@zau
theorem zg2(t:TypeId)(x k v:Operand):step1 C P env (.mapUpdate t x k v) H=mkSR false ((ev env x).cond∧(ev env k).cond∧(ev env v).cond) (XR.ar H (zau P t (ev env x).val (ev env k).val (ev env v).val H)) H:=zX rfl (by simp [Op.operands,needs]) rfl
abbrev Ens:=List (Str×Int)
def mpS:Nat→Ens→List (Nat×V×V)
 |_,[]=>[]
 |i,e::l=>(i,.str e.1,.int .i64 e.2)::mpS (i+1) l
theorem zxy:∀(i:Nat) (l:Ens),(mpS i l).length=l.length
 |_,[]=>rfl
 |i,e::l=>by rw [mpS,List.length_cons,zxy];rfl
attribute [go_sem] zg2 zxy
end Go.Ab

namespace Go.Ab
variable {P:Program}{C:Cfg}{env:Env}{H:Hp}
def mapI(P:Program)(t:TypeId):Option V:=
 match mapT P t with
 |some (kt,et)=>(match keyT P kt (.int .i64 0),zaU P et with|true,some z=>some (cv z)|_,_=>none)
 |none=>none
theorem zxd {t:TypeId}{z:V}(h:mapI P t=some z)(n:Int):∃ kt et z0,mapT P t=some (kt,et)∧keyT P kt (.int .i64 n)=true∧zaU P et=some z0∧cv z0=z:=by
 unfold mapI at h;split at h
 ·rename_i kt et hm;split at h
  ·rename_i z0 hk hz;cases h;refine⟨kt,et,z0,hm,?_,hz,rfl⟩;unfold keyT zff at hk ⊢;simp only at hk ⊢;split at hk
   ·rename_i h2;simp_all
   ·rename_i h2;simp_all
   ·simp_all
   ·cases hk
  ·cases h
 ·cases h
def luF(o:Option (Option (Nat×V)))(z:V)(b:Nat)(H:Hp)(orig:Option XR):Option XR:=
 match o with
 |some (some p)=>some ⟨.tup [p.2,.bool true],H,[b],[]⟩
 |some none=>some ⟨.tup [z,.bool false],H,[b],[]⟩
 |none=>orig
def luI(o:Option V)(ob:Option Blk)(b:Nat)(x:Int)(H:Hp)(orig:Option XR):Option XR:=
 match o,ob with
 |some z,some (.mp es _)=>luF (zcl (.int .i64 x) es 0) z b H orig
 |_,_=>orig
theorem zsu(t:TypeId)(b:Nat)(x:Int)(bs:List (Nat×Blk))(n:Nat):za9 P t (.map b) (.int .i64 x) true ⟨bs,n⟩=luI (mapI P t) (zar bs b) b x ⟨bs,n⟩ (xLookup0 P t (.map b) (.int .i64 x) true ⟨bs,n⟩):=by
 unfold luI;split
 ·rename_i z es c hf ho;obtain⟨kt,et,z0,h1,h2,h3,h4⟩:=zxd hf x;have hg:(⟨bs,n⟩:Hp).get b=some (.mp es c):=(zcM bs b).trans ho;unfold luF;split
  ·rename_i p hp;unfold za9;simp only [h1,h2,h3,hg,hp];rfl
  ·rename_i hp;unfold za9;simp only [h1,h2,h3,hg,hp,h4];rfl
  ·rfl
 ·rfl
theorem luI_mp(z:V)(es:List (Nat×V×V))(c b:Nat)(x:Int)(orig:Option XR):luI (some z) (some (.mp es c)) b x H orig=luF (zcl (.int .i64 x) es 0) z b H orig:=rfl
theorem luF_s(p:Nat×V)(z:V)(b:Nat)(orig:Option XR):luF (some (some p)) z b H orig=some ⟨.tup [p.2,.bool true],H,[b],[]⟩:=rfl
theorem luF_n(z:V)(b:Nat)(orig:Option XR):luF (some none) z b H orig=some ⟨.tup [z,.bool false],H,[b],[]⟩:=rfl
def muF(o:Option (Option (Nat×V)))(es:List (Nat×V×V))(clock b:Nat)(x:Int)(v:V)(H:Hp)(orig:Option XR):Option XR:=
 match o with
 |some none=>some ⟨undefV,H.put b (.mp (es++[(clock,.int .i64 x,v)]) (clock+1)),[b],[b]⟩
 |_=>orig
def muI(o:Option V)(ob:Option Blk)(b:Nat)(x:Int)(v:V)(H:Hp)(orig:Option XR):Option XR:=
 match o,ob with
 |some _,some (.mp es clock)=>muF (zcl (.int .i64 x) es 0) es clock b x v H orig
 |_,_=>orig
theorem zkd(t:TypeId)(b:Nat)(x:Int)(v:V)(bs:List (Nat×Blk))(n:Nat):zau P t (.map b) (.int .i64 x) v ⟨bs,n⟩=muI (mapI P t) (zar bs b) b x v ⟨bs,n⟩ (znR P t (.map b) (.int .i64 x) v ⟨bs,n⟩):=by
 unfold muI;split
 ·rename_i z es c hf ho;obtain⟨kt,et,z0,h1,h2,h3,h4⟩:=zxd hf x;have hg:(⟨bs,n⟩:Hp).get b=some (.mp es c):=(zcM bs b).trans ho;unfold muF;split
  ·rename_i hp;unfold zau;simp only [h1,h2,hg,hp]
  ·rfl
 ·rfl
theorem muI_mp(z:V)(es:List (Nat×V×V))(c b:Nat)(x:Int)(v:V)(orig:Option XR):muI (some z) (some (.mp es c)) b x v H orig=muF (zcl (.int .i64 x) es 0) es c b x v H orig:=rfl
theorem muF_n(es:List (Nat×V×V))(c b:Nat)(x:Int)(v:V)(orig:Option XR):muF (some none) es c b x v H orig=some ⟨undefV,H.put b (.mp (es++[(c,.int .i64 x,v)]) (c+1)),[b],[b]⟩:=rfl
theorem zlM(t:TypeId)(x k v:Operand):step1 C P env (.insert t x k v) H=mkSR false ((ev env x).cond∧(ev env k).cond∧(ev env v).cond) (XR.ar H (zau P t (ev env x).val (ev env k).val (ev env v).val H)) H:=zX rfl (by simp [Op.operands,needs]) rfl
def mpI:Nat→List V→List (Nat×V×V)
 |_,[]=>[]
 |i,v::l=>(i,.int .i64 i,v)::mpI (i+1) l
theorem zfS:∀(i:Nat) (l:List V) (v:V),mpI i l++[(i+l.length,.int .i64 (i+l.length:Nat),v)]=mpI i (l++[v])
 |i,[],v=>rfl
 |i,w::l,v=>by rw [mpI,List.cons_append,List.cons_append,mpI,List.length_cons,show i+(l.length+1)=i+1+l.length by omega,zfS (i+1) l v]
theorem zoY(a b:Int):zxI (.int .i64 a) (.int .i64 b)=some (decide (a=b)):=by show some _=_;congr 1
theorem zd0(x:Nat):∀(i:Nat) (l:List V) (j:Nat),i≤x→zcl (.int .i64 x) (mpI i l) j=some (match l[x - i]? with|some v=>some (j+(x - i),v)|none=>none)
 |i,[],j,_=>by simp [mpI,zcl]
 |i,v::l,j,h=>by
  rw [mpI,zcl,zoY];by_cases hx:i=x
  ·subst hx;simp
  ·have e1:decide ((i:Int)=(x:Int))=false:=decide_eq_false (by omega);have e2:decide ((x:Int)=(i:Int))=false:=decide_eq_false (by omega);simp only [e1,e2];rw [zd0 x (i+1) l (j+1) (by omega),show x - i=(x - (i+1))+1 by omega,List.getElem?_cons_succ,show j+1+(x - (i+1))=j+(x - (i+1)+1)by omega]
attribute [go_sem] zsu luI_mp luF_s luF_n zkd muI_mp muF_n zlM
end Go.Ab

namespace Go.Proofs
open Tryz Go.Ab Go.Cnt Go.Pl Go.Tg
theorem Tryz.mapIL:mapI prog 111=some (.agg [.str [],.nilS]):=by kernel_rfl
theorem Tryz.mapIS:mapI prog 102=some (.str []):=by kernel_rfl
attribute [go_sem] Tryz.mapIL Tryz.mapIS
def okJ(j:List Nat):Prop:=j=[]∨∃ k,j=[k]
theorem jV_inj {i j:List Nat}(hi:okJ i)(hj:okJ j)(h:jV i=jV j):i=j:=by
 rcases hi with rfl|⟨a,rfl⟩<;>rcases hj with rfl|⟨b,rfl⟩
 ·rfl
 ·simp only [jV]at h;omega
 ·simp only [jV]at h;omega
 ·simp only [jV]at h;have:a=b:=by omega
  rw [this]
def StepR(args:List V)(H:Hp)(r:AR):Prop:=∃(c b:Nat) (s:Run) (u:TL) (j:List Nat) (q:Str),args=[tlV u,.int .i64 (jV j),.str q,.ptr c 0]∧b≠c∧H.get b=some (.cells (runC s))∧H.get c=some (.cells [.ptr b 0])∧(∀ b x,H.get b=some x→b<H.next)∧okJ j∧
 (u.1.length≤1000000000∧q.length≤1000000000∧u.2.length≤1000000)∧r=⟨True,tlV (stL s.f u j q).1,H.put b (.cells (runC ⟨s.m,s.cs,(stL s.f u j q).2⟩)),[b,c],[b]⟩
theorem stepR_ok:∀ args H r,StepR args H r→HCall prog 37 args H r:=by
 rintro args H r ⟨c,b,s,u,j,q,rfl,hne,hb,hc,hk,hj,⟨l1,l2,l3⟩,rfl⟩;have tb:zK [b,c] H.next b=0:=by unfold zK;rw [if_pos (hk b _ hb)];simp
 have tc:zK [b,c] H.next c=1:=by unfold zK;rw [if_pos (hk c _ hc)];exact idx1 hne
 refine HCall.of (stL_N s u j hj q l1 l2 l3) [b,c] _ (tlV (stL s.f u j q).1) H _ rfl (by simpa using hne) ?_ (fun i x hx=>?_) (.same (zba _)) rfl (fun b' x' hx'=>?_) (fun b' hb' hw=>?_)
 ·refine⟨rfl,fun i x y hx hy=>?_⟩;match i with
  |0=>cases hx;cases hy;exact .same (zba u)
  |1=>cases hx;cases hy;exact .same (.int _ _)
  |2=>cases hx;cases hy;exact .same (.str _)
  |3=>cases hx;cases hy;exact .ptr (π:=fun i=>[b,c].getD i 0) (b:=1) (Nat.lt_succ_self _)
  |i+4=>simp at hx
 ·match i with
  |0=>cases hx;exact⟨b,_,rfl,hb,.cells (zA (za3 s))⟩
  |1=>cases hx;exact⟨c,_,rfl,hc,.cells (zbl (π:=fun i=>[b,c].getD i 0) (b:=0) (r:=[]) (Nat.zero_lt_succ _) rfl (by simp))⟩
  |i+2=>simp at hx
 ·rw [Hp.get_put]at hx';split at hx'
  ·rename_i he;subst he;rw [hb]at hx';cases hx';refine .inr ⟨.inl (by simp),.cells (runC ⟨s.m,s.cs,(stL s.f u j q).2⟩),?_,.cells (zA (za3 _))⟩;rw [tb];rfl
  ·rename_i he;by_cases h2:b'=c
   ·subst h2;rw [hc]at hx';cases hx';refine .inr ⟨.inl (by simp),.cells [.ptr 0 0],by rw [tc];rfl,.cells ?_⟩;exact zbl (r:=[]) (.inl (by simp)) tb (by simp)
   ·exact .inl ⟨hk b' _ hx',by simp [he,h2],hx'⟩
 ·rw [Hp.get_put,if_neg (by simpa using hw)]
theorem stepR_eq {b c:Nat}{s:Run}{u:TL}{j:List Nat}{q:Str}{bs:List (Nat×Blk)}{n:Nat}(hne:b≠c)(hb:zar bs b=some (.cells (runC s)))(hc:zar bs c=some (.cells [.ptr b 0]))(hk:((keysB bs).all fun b=>decide (b<n))=true)(hj:okJ j)
 (l1:u.1.length≤1000000000) (l2:q.length≤1000000000) (l3:u.2.length≤1000000):
 conD StepR [tlV u,.int .i64 (jV j),.str q,.ptr c 0] ⟨bs,n⟩=some ⟨True,tlV (stL s.f u j q).1,(⟨bs,n⟩:Hp).put b (.cells (runC ⟨s.m,s.cs,(stL s.f u j q).2⟩)),[b,c],[b]⟩:=by
 refine zaD ⟨c,b,s,u,j,q,rfl,hne,by rw [zaL];exact hb,by rw [zaL];exact hc,zbp hk,hj,⟨l1,l2,l3⟩,rfl⟩ fun r' ⟨c',b',s',u',j',q',e1,_,e2,e3,_,hj',_,e4⟩=>?_
 simp only [List.cons.injEq,V.ptr.injEq,V.int.injEq,V.str.injEq,and_true,true_and]at e1
 obtain⟨a1,a2,rfl,rfl⟩:=e1
 have:=znZ a1
 subst this
 have:=jV_inj hj hj' a2
 subst this
 rw [zaL,hc]at e3
 simp only [Option.some.injEq,Blk.cells.injEq,List.cons.injEq,V.ptr.injEq,and_true]at e3
 subst e3
 rw [zaL,hb]at e2
 simp only [Option.some.injEq,Blk.cells.injEq]at e2
 have:=zcI e2
 subst this
 exact e4
noncomputable def ΔF:FuncId→List V→Hp→Option AR:=zbJ 34 (conD (zA9 zkM)) (zbJ 36 (conD (znN zdG)) (zbJ 37 (conD StepR) noΔ))
theorem zeP:zaT prog ΔF:=zV (zaq (zkJ zkM fun _ r h=>zyk r h)) (zV (zaq (zel zdG fun x r h=>zjT r x.1 x.2 h.1 h.2)) (zV (zaq stepR_ok) zg))
theorem ΔF_ends(b:Nat)(r:Run)(bs:List (Nat×Blk))(n:Nat)(h:r.m.tags.length≤1000000)(hb:zar bs b=some (.cells (runC r)))(hk:((keysB bs).all fun b=>decide (b<n))=true):
 ΔF 34 [.ptr b 0] ⟨bs,n⟩=some ⟨True,.int .i64 r.m.tags.length,⟨bs,n⟩,[b],[]⟩:=zkK zkM (x:=()) (s:=r) h hb hk
theorem zu4(b:Nat)(r:Run)(p q:Str)(bs:List (Nat×Blk))(n:Nat)(lp:p.length≤1000000000)(lq:q.length≤1000000000)(hb:zar bs b=some (.cells (runC r)))(hk:((keysB bs).all fun b=>decide (b<n))=true):
 ΔF 36 [.ptr b 0,.str p,.str q] ⟨bs,n⟩=some ⟨True,.str (tm r.f p q).1,(⟨bs,n⟩:Hp).put b (.cells (runC ⟨r.m,r.cs,(tm r.f p q).2⟩)),[b],[b]⟩:=zem zdG (x:=(p,q)) (s:=r) ⟨lp,lq⟩ hb hk
theorem zp7 {b c:Nat}{s:Run}{u:TL}{j:List Nat}{q:Str}{bs:List (Nat×Blk)}{n:Nat}(hne:b≠c)(hb:zar bs b=some (.cells (runC s)))(hc:zar bs c=some (.cells [.ptr b 0]))(hk:((keysB bs).all fun b=>decide (b<n))=true)(hj:okJ j)
 (l1:u.1.length≤1000000000) (l2:q.length≤1000000000) (l3:u.2.length≤1000000):
 ΔF 37 [tlV u,.int .i64 (jV j),.str q,.ptr c 0] ⟨bs,n⟩=some ⟨True,tlV (stL s.f u j q).1,(⟨bs,n⟩:Hp).put b (.cells (runC ⟨s.m,s.cs,(stL s.f u j q).2⟩)),[b,c],[b]⟩:=stepR_eq hne hb hc hk hj l1 l2 l3
def okT(B:Nat)(x:TL):Prop:=x.1.length≤1000∧x.2.length≤B
theorem zrz {B:Nat}{x y:TL}(hx:okT B x)(hy:okT B y):okT B (betT x y):=by unfold betT;split<;>assumption
theorem zj3 {B:Nat}{f:Int}{u:TL}{j:List Nat}{q:Str}(hu:okT B u)(hj:j.length≤1):okT (B+1) (stL f u j q).1:=by
 unfold stL;split
 ·exact⟨zf4 _ _ _,by simp⟩
 ·exact⟨zf4 _ _ _,by have:=hu.2;simp only [List.length_append];omega⟩
theorem zkb {B:Nat}{m:Mdl}{bef:Nat→Option TL}(hb:∀ i u,bef i=some u→okT B u)(j c:Nat)(f:Int):∀ k,okT (B+1) (row1 stL plL m ([48],[]) bef j c f k).1
 |0=>⟨by simp [row1],by simp [row1]⟩
 |k+1=>by
  have ih:=zkb (m:=m) hb j c f k;rw [row1];cases h:bef k with
  |none=>exact ih
  |some u=>exact zrz ih (zj3 (hb k u h) (by simp))
theorem zqs {B:Nat}{m:Mdl}{bef:Nat→Option TL}(hb:∀ i u,bef i=some u→okT B u)(c:Nat)(f:Int):∀ k,∀ x∈(rowK stL plL m ([48],[]) bef c f k).1,okT (B+1) x
 |0,x,h=>by simp [rowK]at h
 |k+1,x,h=>by
  rw [rowK]at h;rcases List.mem_append.1 h with h|h
  ·exact zqs hb c f k x h
  ·rw [List.mem_singleton.1 h];exact zkb hb _ _ _ _
theorem zer {B:Nat}{m:Mdl}{t:Nat}{l:List TL}(h:∀ x∈l,okT B x):∀ i u,befT m ([49],[]) t l i=some u→okT B u:=by
 intro i u e;unfold befT at e;split at e
 ·split at e
  ·cases e;exact⟨by simp,by simp⟩
  ·cases e
 ·exact h u (List.mem_of_getElem? e)
theorem zeo(m:Mdl)(cs:List Nat):∀ t,∀ x∈(fwdT stL plL m ([48],[]) ([49],[]) cs t).1,okT t x
 |0,x,h=>by simp [fwdT]at h
 |t+1,x,h=>zqs (zer (zeo m cs t)) _ _ _ x h
theorem zfk {B:Nat}{m:Mdl}{bef:Nat→Option TL}(hb:∀ i u,bef i=some u→okT B u)(f:Int):∀ k,okT (B+1) (fin1 stL plL m ([48],[]) bef f k).1
 |0=>⟨by simp [fin1],by simp [fin1]⟩
 |k+1=>by
  have ih:=zfk (m:=m) hb f k;rw [fin1];cases h:bef k with
  |none=>exact ih
  |some u=>exact zrz ih (zj3 (hb k u h) (by simp))
def befE(n t:Nat)(fst:V)(l:List V):List (Nat×V×V):=if t=0 then [(0,.int .i64 n,fst)]else mpI 0 l
def befC(t:Nat)(l:List V):Nat:=if t=0 then 1 else l.length
theorem znA {m:Mdl}{t:Nat}{l:List TL}{i:Nat}(fst:TL){o:Option TL}(h:befT m fst t l i=o):∃ k,zcl (.int .i64 i) (befE m.tags.length t (tlV fst) (l.map tlV)) 0=some (match o with|some u=>some (k,tlV u)|none=>none):=by
 unfold befT at h;unfold befE;by_cases ht:t=0
 ·rw [if_pos ht]at h ⊢;rw [zcl,zoY];by_cases hi:i=m.tags.length
  ·rw [if_pos hi]at h;subst h;rw [decide_eq_true (by omega)];exact⟨0,rfl⟩
  ·rw [if_neg hi]at h;subst h;rw [decide_eq_false (by omega)];exact⟨0,rfl⟩
 ·rw [if_neg ht]at h ⊢;rw [zd0 i 0 _ 0 (Nat.zero_le _),Nat.sub_zero,List.getElem?_map,h];cases o with
  |none=>exact⟨0,rfl⟩
  |some u=>exact⟨0+i,rfl⟩
def z48:TL:=([48],[])
def o49:TL:=([49],[])
theorem oneL_mk(f:Int)(v u:TL)(j:List Nat)(a b:Str):one stL plL f v u j a b=(betT v (stL (tm f a b).2 u j (tm f a b).1).1,(stL (tm f a b).2 u j (tm f a b).1).2):=rfl
theorem oneL'_mk(f:Int)(v u:TL)(a:Str):one' stL plL f v u a=(betT v (stL f u [] a).1,(stL f u [] a).2):=rfl
theorem zeZ(a:Str)(b:List Nat):tlV (a,b)=.agg [.str a,tgV b]:=rfl
theorem tlV_z:tlV z48=.agg [.str [48],.nilS]:=rfl
theorem tlV_o:tlV o49=.agg [.str [49],.nilS]:=rfl
theorem pureSN(s:Str):(∀ x∈[V.str s,.nilS],Pure x)↔True:=⟨fun _=>trivial,fun _ x h=>by
 simp only [List.mem_cons,List.not_mem_nil,or_false]at h;rcases h with rfl|rfl
 ·exact .str _
 ·exact .nilS⟩
def zp1(es:List (Nat×V×V)):Prop:=∀ e∈es,Pure e.2.1∧Pure e.2.2
theorem zbH {π:Nat→Nat}{N:Nat→Prop}{es:List (Nat×V×V)}(c:Nat)(h:zp1 es):RnB π N (.mp es c) (.mp es c):=
 .mp rfl (zA fun x hx=>by obtain⟨e,he,rfl⟩:=List.mem_map.1 hx;exact(h e he).1) (zA fun x hx=>by obtain⟨e,he,rfl⟩:=List.mem_map.1 hx;exact(h e he).2)
theorem zbw:∀(i:Nat) (l:List V),(∀ x∈l,Pure x)→zp1 (mpI i l)
 |_,[],_,e,h=>by cases h
 |i,v::l,hl,e,h=>by
  rcases List.mem_cons.1 h with rfl|h
  ·exact⟨.int _ _,hl v (by simp)⟩
  ·exact zbw (i+1) l (fun x hx=>hl x (by simp [hx])) e h
theorem zdh(l:List TL):∀ x∈l.map tlV,Pure x:=fun x h=>by obtain⟨y,_,rfl⟩:=List.mem_map.1 h;exact zba y
theorem zda {n t:Nat}{v:V}{l:List V}(hv:Pure v)(hl:∀ x∈l,Pure x):zp1 (befE n t v l):=by
 unfold befE;split
 ·intro e h;rw [List.mem_singleton.1 h];exact⟨.int _ _,hv⟩
 ·exact zbw 0 l hl
theorem zny(n:Nat)(v:V)(l:List V):befE n 0 v l=[(0,.int .i64 n,v)]:=rfl
theorem znB(l:List V):befC 0 l=1:=rfl
theorem znz(n t:Nat)(v:V)(l:List V):befE n (t+1) v l=mpI 0 l:=rfl
theorem znC(t:Nat)(l:List V):befC (t+1) l=l.length:=rfl
theorem rn_tgV {π:Nat→Nat}{N:Nat→Prop}(l:List Nat):Rn π N (tgV l) (tgV l)↔True:=⟨fun _=>trivial,fun _=>.same (zqf l)⟩
theorem zwd(l:List Nat):zdm (tgV l)=[]:=by unfold tgV;split<;>rfl
attribute [go_sem] pureSN rn_tgV zwd
theorem zjj(k:V)(j:Nat):zcl k [] j=some none:=rfl
abbrev fwL(m:Mdl)(cs:List Nat)(t:Nat):List TL×Int:=fwdT stL plL m z48 o49 cs t
theorem fwdL_N(m:Mdl)(cs:List Nat)(hv:vmB m=true)(hf:Fit m)(hcl:cs.length≤1000)(hc:∀ i,i<cs.length→cs.getD i 0≤m.words.length)(hl:∀ i j,(nx m i j).length≤1000000000∧(em m i j).length≤1000000000):
 NCall prog 39 [.ptr 0 0,tlV o49,tlV z48,.fn 37 [.ptr 1 0],.fn 40 []] [.cells (runC ⟨m,cs,0⟩),.cells [.ptr 0 0]] [0]
  (tlV (finT stL plL m z48 o49 cs).1) ⟨[(2,.cells [.str (finT stL plL m z48 o49 cs).1.1,tgV (finT stL plL m z48 o49 cs).1.2]),(0,.cells (runC ⟨m,cs,(finT stL plL m z48 o49 cs).2⟩)),(1,.cells [.ptr 0 0])],3⟩:=by
 have hΓ:=zf cBetT_ok zh
 obtain⟨v1,v2,v3,v4,v5,v6⟩:=zjN hv
 have htl:=hf.tl
 have hn:∀ i j,nx m i j=(nthR m.next i).getD j []:=fun i j=>rfl
 have he:∀ i j,em m i j=(nthR m.emit i).getD j []:=fun i j=>rfl
 obtain⟨R,hR⟩:∃ R,R=finT stL plL m z48 o49 cs:=⟨_,rfl⟩
 rw [←hR]
 obtain⟨M,hM⟩:∃ M,M=m:=⟨_,rfl⟩
 rw [←hM]at hR hn he hl
 obtain⟨T,W,N,E⟩:=m
 unfold runC
 dsimp only at v1 v2 v3 v4 hc htl ⊢
 have hMt:M.tags=T:=by rw [hM]
 have hMn:M.next=N:=by rw [hM]
 have hMe:M.emit=E:=by rw [hM]
 rw [hMn]at hn
 rw [hMe]at he
 have hM':=hM
 clear hM
 have qe:∀(bs:List (Nat×Blk)) (n:Nat) (f:Int),zar bs 0=some (.cells [.fs (strs T) T.length,.fs (strs W) W.length,.fs (zu N) N.length,.fs (zu E) E.length,.fs (nats .i64 cs) cs.length,.int .i64 f])→((keysB bs).all fun b=>decide (b<n))=true→ΔF 34 [.ptr 0 0] ⟨bs,n⟩=some ⟨True,.int .i64 T.length,⟨bs,n⟩,[0],[]⟩:=fun bs n f h k=>ΔF_ends 0 ⟨⟨T,W,N,E⟩,cs,f⟩ bs n (by dsimp only;omega) h k
 refine NCall.walkW (rs:=[.cell 10 67]) [0,1,2,3,4,6,7,10,11,13,14,15,16,17,18,19,20,21,22,23,32,33,34,35,44,45,46,51,52,53,61,103,104,105,113] [67] 2 [0] mixed (hΓ) (zeP) call39 func39 rfl ntmps39 rfl (by kernel_rfl) (by simp) (by simp) (by simp) (by simp) ?_
 rw [tlV_z,tlV_o]
 have q1:=qe [(3,.mp [] 0),(2,.cells [.str [],.nilS]),(0,.cells [.fs (strs T) T.length,.fs (strs W) W.length,.fs (zu N) N.length,.fs (zu E) E.length,.fs (nats .i64 cs) cs.length,.int .i64 0]),(1,.cells [.ptr 0 0])] 4 0 rfl rfl
 simp (disch:=first|assumption|(push_cast<;>omega)|omega) only [go_sem,q1,zjj,List.nil_append]
 refine AXk.intro (by kernel_rfl) ?_
 simp (disch:=first|assumption|(push_cast<;>omega)|omega) only [go_sem]
 refine AXs.loop mixed (hΓ) (zeP) (fun t:Nat=>[(0,.ptr 0 0),(3,.fn 37 [.ptr 1 0]),(4,.fn 40 []),(7,.fp [.str [48],.nilS]),(10,.ptr 2 0),(11,.map 3),(32,.fs (nats .i64 cs) cs.length),(33,.int .i64 cs.length),(34,.int .i64 t)])
  (fun t=>⟨[(3,.mp (befE T.length t (tlV o49) ((fwL M cs t).1.map tlV)) (befC t ((fwL M cs t).1.map tlV))),(2,.cells [.str [],.nilS]),(0,.cells [.fs (strs T) T.length,.fs (strs W) W.length,.fs (zu N) N.length,.fs (zu E) E.length,.fs (nats .i64 cs) cs.length,.int .i64 (fwL M cs t).2]),(1,.cells [.ptr 0 0])],4⟩) (fun t=>t≤cs.length) (fun t=>cs.length - t) 0 (by kernel_rfl) (Nat.zero_le _) (Sub.oD [] rfl ?_ ?_) ?_
 ·simp only [go_sem]
 ·simp only [go_sem,zny,znB]
  exact⟨zbH 1 (zda (n:=T.length) (t:=0) (v:=tlV o49) (l:=[]) (zba _) (fun x h=>by cases h)),rfl⟩
 intro t h1
 simp (disch:=first|assumption|(push_cast<;>omega)|omega) only [go_sem]
 refine AXc.introP (fun h2=>?_) (fun h2=>?_)
 ·have ht:t<cs.length:=by omega
  have hct:=hc t ht
  have ef:fwL M cs (t+1)=rowK stL plL M z48 (befT M o49 t (fwL M cs t).1) (cs.getD t 0) (fwL M cs t).2 M.tags.length:=rfl
  have hbo:∀ i u,befT M o49 t (fwL M cs t).1 i=some u→okT t u:=zer (m:=M) (t:=t) (zeo M cs t)
  have hfind:=fun i=>znA (m:=M) (t:=t) (l:=(fwL M cs t).1) (i:=i) o49 rfl
  rw [hMt]at ef hfind
  have hpe:zp1 (befE T.length t (tlV o49) ((fwL M cs t).1.map tlV)):=zda (zba _) (zdh _)
  generalize hes:befE T.length t (tlV o49) ((fwL M cs t).1.map tlV)=es at hfind hpe ⊢
  generalize hec:befC t ((fwL M cs t).1.map tlV)=ec
  generalize hbf:befT M o49 t (fwL M cs t).1=bf at ef hbo hfind
  generalize (fwL M cs t).2=f0 at ef ⊢
  generalize hcc:cs.getD t 0=c at hct ef ⊢
  simp (disch:=first|assumption|(push_cast<;>omega)|omega) only [go_sem,hcc]
  (repeat refine sdC ?_)
  refine AXs.loop mixed (hΓ) (zeP) (fun j:Nat=>[(0,.ptr 0 0),(3,.fn 37 [.ptr 1 0]),(4,.fn 40 []),(7,.fp [.str [48],.nilS]),(10,.ptr 2 0),(11,.map 3),(32,.fs (nats .i64 cs) cs.length),(33,.int .i64 cs.length),(34,.int .i64 t),(13,.int .i64 c),(14,.map 4),(44,.int .i64 T.length),(45,.int .i64 j)])
   (fun j=>⟨[(4,.mp (mpI 0 ((rowK stL plL M z48 bf c f0 j).1.map tlV)) j),(3,.mp es ec),(2,.cells [.str [],.nilS]),(0,.cells [.fs (strs T) T.length,.fs (strs W) W.length,.fs (zu N) N.length,.fs (zu E) E.length,.fs (nats .i64 cs) cs.length,.int .i64 (rowK stL plL M z48 bf c f0 j).2]),(1,.cells [.ptr 0 0])],5⟩) (fun j=>j≤T.length) (fun j=>T.length - j) 0 (by kernel_rfl) (Nat.zero_le _) (Sub.oD [] rfl ?_ ?_) ?_
  ·simp only [go_sem]
  ·simp only [go_sem]
   exact⟨zbH 0 (fun e h=>by cases h),zbH ec hpe,rfl⟩
  intro j h3
  simp (disch:=first|assumption|(push_cast<;>omega)|omega) only [go_sem]
  refine AXc.introP (fun h4=>?_) (fun h4=>?_)
  ·have hj:j<T.length:=by omega
   have er:rowK stL plL M z48 bf c f0 (j+1)=((rowK stL plL M z48 bf c f0 j).1++[(row1 stL plL M z48 bf j c (rowK stL plL M z48 bf c f0 j).2 (T.length+1)).1],(row1 stL plL M z48 bf j c (rowK stL plL M z48 bf c f0 j).2 (T.length+1)).2):=by rw [←hMt];rfl
   have erl:=zbQ stL plL M z48 bf c f0 j
   generalize rowK stL plL M z48 bf c f0 j=rk at er erl ⊢
   obtain⟨rl,f1⟩:=rk
   dsimp only at er erl ⊢
   have q2:=qe [(5,.cells [.str [48],.nilS]),(4,.mp (mpI 0 (rl.map tlV)) j),(3,.mp es ec),(2,.cells [.str [],.nilS]),(0,.cells [.fs (strs T) T.length,.fs (strs W) W.length,.fs (zu N) N.length,.fs (zu E) E.length,.fs (nats .i64 cs) cs.length,.int .i64 f1]),(1,.cells [.ptr 0 0])] 6 f1 rfl rfl
   simp (disch:=first|assumption|(push_cast<;>omega)|omega) only [go_sem,q2]
   refine AXs.loop mixed (hΓ) (zeP) (fun i:Nat=>[(0,.ptr 0 0),(3,.fn 37 [.ptr 1 0]),(4,.fn 40 []),(7,.fp [.str [48],.nilS]),(10,.ptr 2 0),(11,.map 3),(32,.fs (nats .i64 cs) cs.length),(33,.int .i64 cs.length),(34,.int .i64 t),(13,.int .i64 c),(14,.map 4),(44,.int .i64 T.length),(45,.int .i64 j),(15,.int .i64 j),(16,.ptr 5 0),(51,.int .i64 ((T.length:Int)+1)),(52,.int .i64 i)])
    (fun i=>⟨[(5,.cells [.str (row1 stL plL M z48 bf j c f1 i).1.1,tgV (row1 stL plL M z48 bf j c f1 i).1.2]),(4,.mp (mpI 0 (rl.map tlV)) j),(3,.mp es ec),(2,.cells [.str [],.nilS]),(0,.cells [.fs (strs T) T.length,.fs (strs W) W.length,.fs (zu N) N.length,.fs (zu E) E.length,.fs (nats .i64 cs) cs.length,.int .i64 (row1 stL plL M z48 bf j c f1 i).2]),(1,.cells [.ptr 0 0])],6⟩) (fun i=>i≤T.length+1) (fun i=>T.length+1 - i) 0 (by kernel_rfl) (Nat.zero_le _) (Sub.oD [] rfl ?_ ?_) ?_
   ·simp only [go_sem]
   ·simp only [go_sem]
    exact⟨⟨rfl,(show Rn _ _ V.nilS V.nilS from .same .nilS)⟩,zbH j (zbw 0 _ (zdh _)),zbH ec hpe,rfl⟩
   intro i h5
   simp (disch:=first|assumption|(push_cast<;>omega)|omega) only [go_sem]
   refine AXc.introP (fun h6=>?_) (fun h6=>?_)
   ·have hi:i<T.length+1:=by omega
    have erN:bf i=none→row1 stL plL M z48 bf j c f1 (i+1)=row1 stL plL M z48 bf j c f1 i:=fun h=>by rw [row1,h]
    have erS:∀ u,bf i=some u→row1 stL plL M z48 bf j c f1 (i+1)=one stL plL (row1 stL plL M z48 bf j c f1 i).2 (row1 stL plL M z48 bf j c f1 i).1 u [j] (nx M i j) (em M j c):=fun u h=>by rw [row1,h]
    have okv:okT (t+1) (row1 stL plL M z48 bf j c f1 i).1:=zkb (m:=M) hbo j c f1 i
    obtain⟨kk,hk⟩:=hfind i
    generalize row1 stL plL M z48 bf j c f1 i=vf at erN erS okv ⊢
    obtain⟨⟨w1,w2⟩,f⟩:=vf
    dsimp only at erN erS okv ⊢
    cases hb:bf i with
    |none=>
     have er1:=erN hb
     rw [hb]at hk
     dsimp only at hk
     simp (disch:=first|assumption|(push_cast<;>omega)|omega) only [go_sem,hk]
     refine zk (i+1) (by omega) (by omega) ?_
     rw [er1]
     refine Sub.oD [] rfl ?_ ?_
     ·simp only [go_sem]
      simp
     ·simp only [go_sem]
      exact⟨zbH j (zbw 0 _ (zdh _)),zbH ec hpe⟩
    |some u=>
     have er1:=erS u hb
     rw [hb]at hk
     have oku:=hbo i u hb
     obtain⟨u1,u2⟩:=u
     have ou1:u1.length≤1000:=oku.1
     have ou2:u2.length≤t:=oku.2
     dsimp only at hk
     have hk':zcl (.int .i64 i) es 0=some (some (kk,.agg [.str u1,tgV u2])):=hk
     have n1:=zb3 N i (by omega)
     have n2:=v2 i (by omega)
     have n3:=zb3 E j (by omega)
     have n4:=v4 j hj
     have l1:=(hl i j).1
     have l2:=(hl j c).2
     rw [hn]at l1 er1
     rw [he]at l2 er1
     generalize hA:(nthR N i).getD j []=A at l1 er1
     generalize hB:(nthR E j).getD c []=B at l2 er1
     rw [oneL_mk]at er1
     have t1:ΔF 36 [.ptr 0 0,.str A,.str B] ⟨[(6,.cells [.str u1,tgV u2]),(5,.cells [.str w1,tgV w2]),(4,.mp (mpI 0 (rl.map tlV)) j),(3,.mp es ec),(2,.cells [.str [],.nilS]),(0,.cells [.fs (strs T) T.length,.fs (strs W) W.length,.fs (zu N) N.length,.fs (zu E) E.length,.fs (nats .i64 cs) cs.length,.int .i64 f]),(1,.cells [.ptr 0 0])],7⟩=some ⟨True,.str (tm f A B).1,⟨[(6,.cells [.str u1,tgV u2]),(5,.cells [.str w1,tgV w2]),(4,.mp (mpI 0 (rl.map tlV)) j),(3,.mp es ec),(2,.cells [.str [],.nilS]),(0,.cells [.fs (strs T) T.length,.fs (strs W) W.length,.fs (zu N) N.length,.fs (zu E) E.length,.fs (nats .i64 cs) cs.length,.int .i64 (tm f A B).2]),(1,.cells [.ptr 0 0])],7⟩,[0],[0]⟩:=
      zu4 0 ⟨⟨T,W,N,E⟩,cs,f⟩ A B _ 7 l1 l2 rfl rfl
     have lx:=zf4 f A B
     generalize tm f A B=x at t1 lx er1
     obtain⟨x1,x2⟩:=x
     dsimp only at t1 lx er1
     have t2:ΔF 37 [.agg [.str u1,tgV u2],.int .i64 (j:Nat),.str x1,.ptr 1 0] ⟨[(6,.cells [.str u1,tgV u2]),(5,.cells [.str w1,tgV w2]),(4,.mp (mpI 0 (rl.map tlV)) j),(3,.mp es ec),(2,.cells [.str [],.nilS]),(0,.cells [.fs (strs T) T.length,.fs (strs W) W.length,.fs (zu N) N.length,.fs (zu E) E.length,.fs (nats .i64 cs) cs.length,.int .i64 x2]),(1,.cells [.ptr 0 0])],7⟩=some ⟨True,tlV (stL x2 (u1,u2) [j] x1).1,⟨[(6,.cells [.str u1,tgV u2]),(5,.cells [.str w1,tgV w2]),(4,.mp (mpI 0 (rl.map tlV)) j),(3,.mp es ec),(2,.cells [.str [],.nilS]),(0,.cells [.fs (strs T) T.length,.fs (strs W) W.length,.fs (zu N) N.length,.fs (zu E) E.length,.fs (nats .i64 cs) cs.length,.int .i64 (stL x2 (u1,u2) [j] x1).2]),(1,.cells [.ptr 0 0])],7⟩,[0,1],[0]⟩:=
      zp7 (b:=0) (c:=1) (s:=⟨⟨T,W,N,E⟩,cs,x2⟩) (u:=(u1,u2)) (j:=[j]) (q:=x1) (n:=7) (by decide) rfl rfl rfl (.inr ⟨j,rfl⟩) (show u1.length≤1000000000 by omega) (by omega) (show u2.length≤1000000 by omega)
     have oky:=zj3 (f:=x2) (q:=x1) oku (j:=[j]) (by simp)
     generalize stL x2 (u1,u2) [j] x1=y at t2 oky er1
     obtain⟨⟨y1,y2⟩,y3⟩:=y
     dsimp only at t2 oky er1
     have ow1:w1.length≤1000:=okv.1
     have ow2:=okv.2
     have oy1:y1.length≤1000:=oky.1
     have oy2:=oky.2
     dsimp only at ow2 oy2
     have t3:=zrt (w1,w2) (y1,y2) (show w1.length≤1000000000 by omega) (show y1.length≤1000000000 by omega) (show w2.length≤1000000 by omega) (show y2.length≤1000000 by omega)
     generalize betT (w1,w2) (y1,y2)=g at t3 er1
     obtain⟨g1,g2⟩:=g
     rw [zeZ]at t2
     rw [zeZ,zeZ,zeZ]at t3
     simp (disch:=first|assumption|(push_cast<;>omega)|omega) only [go_sem,hk',n1,n3,hA,hB,t1,t2,t3]
     refine⟨⟨by omega,by omega⟩,by omega,⟨by omega,by omega⟩,by omega,⟨by omega,by omega⟩,by omega,⟨by omega,by omega⟩,by omega,rfl,rfl,?_⟩
     refine AXk.intro (by kernel_rfl) ?_
     simp (disch:=first|assumption|(push_cast<;>omega)|omega) only [go_sem]
     refine zk (i+1) (by omega) (by omega) ?_
     rw [er1]
     refine Sub.oD [] rfl ?_ ?_
     ·simp only [go_sem]
      simp
     ·simp only [go_sem]
      exact⟨zbH j (zbw 0 _ (zdh _)),zbH ec hpe⟩
   ·obtain rfl:i=T.length+1:=by omega
    have hnew:zcl (.int .i64 j) (mpI 0 (rl.map tlV)) 0=some none:=by rw [zd0 j 0 _ 0 (Nat.zero_le _),Nat.sub_zero,List.getElem?_eq_none (by rw [List.length_map];omega)]
    have happ:=zfS 0 (rl.map tlV) (tlV (row1 stL plL M z48 bf j c f1 (T.length+1)).1)
    rw [Nat.zero_add,List.length_map,erl]at happ
    generalize row1 stL plL M z48 bf j c f1 (T.length+1)=vf at happ er ⊢
    obtain⟨⟨w1,w2⟩,f⟩:=vf
    dsimp only at happ er ⊢
    have happ':mpI 0 (rl.map tlV)++[(j,.int .i64 (j:Nat),.agg [.str w1,tgV w2])]=mpI 0 ((rl++[(w1,w2)]).map tlV):=by rw [List.map_append];exact happ
    simp only [go_sem]
    refine AXa.go mixed (hΓ) (zeP) (by kernel_rfl) ?_
    simp (disch:=first|assumption|(push_cast<;>omega)|omega) only [go_sem,hnew,happ']
    refine zk (j+1) (by omega) (by omega) ?_
    rw [er]
    refine Sub.oD [] rfl ?_ ?_
    ·simp only [go_sem]
     simp
    ·simp only [go_sem]
     exact⟨zbH (j+1) (zbw 0 _ (zdh _)),zbH ec hpe⟩
  ·obtain rfl:j=T.length:=by omega
   have erl:=zbQ stL plL M z48 bf c f0 T.length
   simp only [go_sem]
   refine AXa.go mixed (hΓ) (zeP) (by kernel_rfl) ?_
   simp (disch:=first|assumption|(push_cast<;>omega)|omega) only [go_sem]
   refine zk (t+1) (by omega) (by omega) ?_
   rw [ef]
   generalize rowK stL plL M z48 bf c f0 T.length=rk at erl ⊢
   obtain⟨rl,f1⟩:=rk
   dsimp only at erl ⊢
   rw [znz,znC,List.length_map,erl]
   refine Sub.oD [(3,4)] rfl ?_ ?_
   ·simp only [go_sem]
    simp
   ·simp only [go_sem]
    exact zbH T.length (zbw 0 _ (zdh _))
 ·obtain rfl:t=cs.length:=by omega
  have ef:finT stL plL M z48 o49 cs=fin1 stL plL M z48 (befT M o49 cs.length (fwL M cs cs.length).1) (fwL M cs cs.length).2 (M.tags.length+1):=rfl
  have hbo:∀ i u,befT M o49 cs.length (fwL M cs cs.length).1 i=some u→okT cs.length u:=zer (m:=M) (t:=cs.length) (zeo M cs cs.length)
  have hfind:=fun i=>znA (m:=M) (t:=cs.length) (l:=(fwL M cs cs.length).1) (i:=i) o49 rfl
  have hpe:zp1 (befE T.length cs.length (tlV o49) ((fwL M cs cs.length).1.map tlV)):=zda (zba _) (zdh _)
  rw [hMt]at ef hfind
  rw [ef]at hR
  clear ef
  generalize hes:befE T.length cs.length (tlV o49) ((fwL M cs cs.length).1.map tlV)=es at hfind hpe ⊢
  generalize hec:befC cs.length ((fwL M cs cs.length).1.map tlV)=ec
  generalize hbf:befT M o49 cs.length (fwL M cs cs.length).1=bf at hR hbo hfind
  generalize (fwL M cs cs.length).2=f0 at hR ⊢
  have q2:=qe [(4,.cells [.str [48],.nilS]),(3,.mp es ec),(2,.cells [.str [],.nilS]),(0,.cells [.fs (strs T) T.length,.fs (strs W) W.length,.fs (zu N) N.length,.fs (zu E) E.length,.fs (nats .i64 cs) cs.length,.int .i64 f0]),(1,.cells [.ptr 0 0])] 5 f0 rfl rfl
  simp only [go_sem]
  refine AXa.go mixed (hΓ) (zeP) (by kernel_rfl) ?_
  simp (disch:=first|assumption|(push_cast<;>omega)|omega) only [go_sem,q2]
  refine AXs.loop mixed (hΓ) (zeP) (fun i:Nat=>[(0,.ptr 0 0),(3,.fn 37 [.ptr 1 0]),(4,.fn 40 []),(10,.ptr 2 0),(11,.map 3),(20,.ptr 4 0),(103,.int .i64 ((T.length:Int)+1)),(104,.int .i64 i)])
   (fun i=>⟨[(4,.cells [.str (fin1 stL plL M z48 bf f0 i).1.1,tgV (fin1 stL plL M z48 bf f0 i).1.2]),(3,.mp es ec),(2,.cells [.str [],.nilS]),(0,.cells [.fs (strs T) T.length,.fs (strs W) W.length,.fs (zu N) N.length,.fs (zu E) E.length,.fs (nats .i64 cs) cs.length,.int .i64 (fin1 stL plL M z48 bf f0 i).2]),(1,.cells [.ptr 0 0])],5⟩) (fun i=>i≤T.length+1) (fun i=>T.length+1 - i) 0 (by kernel_rfl) (Nat.zero_le _) (Sub.oD [] rfl ?_ ?_) ?_
  ·simp only [go_sem]
  ·simp only [go_sem]
   exact⟨⟨rfl,(show Rn _ _ V.nilS V.nilS from .same .nilS)⟩,zbH ec hpe,rfl⟩
  intro i h5
  simp (disch:=first|assumption|(push_cast<;>omega)|omega) only [go_sem]
  refine AXc.introP (fun h6=>?_) (fun h6=>?_)
  ·have hi:i<T.length+1:=by omega
   have erN:bf i=none→fin1 stL plL M z48 bf f0 (i+1)=fin1 stL plL M z48 bf f0 i:=fun h=>by rw [fin1,h]
   have erS:∀ u,bf i=some u→fin1 stL plL M z48 bf f0 (i+1)=one' stL plL (fin1 stL plL M z48 bf f0 i).2 (fin1 stL plL M z48 bf f0 i).1 u (nx M i T.length):=fun u h=>by rw [fin1,h,hMt]
   have okv:okT (cs.length+1) (fin1 stL plL M z48 bf f0 i).1:=zfk (m:=M) hbo f0 i
   obtain⟨kk,hk⟩:=hfind i
   generalize fin1 stL plL M z48 bf f0 i=vf at erN erS okv ⊢
   obtain⟨⟨w1,w2⟩,f⟩:=vf
   dsimp only at erN erS okv ⊢
   cases hb:bf i with
   |none=>
    have er1:=erN hb
    rw [hb]at hk
    dsimp only at hk
    simp (disch:=first|assumption|(push_cast<;>omega)|omega) only [go_sem,hk]
    refine zk (i+1) (by omega) (by omega) ?_
    rw [er1]
    refine Sub.oD [] rfl ?_ ?_
    ·simp only [go_sem]
     simp
    ·simp only [go_sem]
     exact zbH ec hpe
   |some u=>
    have er1:=erS u hb
    rw [hb]at hk
    have oku:=hbo i u hb
    obtain⟨u1,u2⟩:=u
    have ou1:u1.length≤1000:=oku.1
    have ou2:u2.length≤cs.length:=oku.2
    dsimp only at hk
    have hk':zcl (.int .i64 i) es 0=some (some (kk,.agg [.str u1,tgV u2])):=hk
    have n1:=zb3 N i (by omega)
    have n2:=v2 i (by omega)
    have l1:=(hl i T.length).1
    rw [hn]at l1 er1
    generalize hA:(nthR N i).getD T.length []=A at l1 er1
    rw [oneL'_mk]at er1
    have q3:=qe [(5,.cells [.str u1,tgV u2]),(4,.cells [.str w1,tgV w2]),(3,.mp es ec),(2,.cells [.str [],.nilS]),(0,.cells [.fs (strs T) T.length,.fs (strs W) W.length,.fs (zu N) N.length,.fs (zu E) E.length,.fs (nats .i64 cs) cs.length,.int .i64 f]),(1,.cells [.ptr 0 0])] 6 f rfl rfl
    have t2:ΔF 37 [.agg [.str u1,tgV u2],.int .i64 (-1),.str A,.ptr 1 0] ⟨[(5,.cells [.str u1,tgV u2]),(4,.cells [.str w1,tgV w2]),(3,.mp es ec),(2,.cells [.str [],.nilS]),(0,.cells [.fs (strs T) T.length,.fs (strs W) W.length,.fs (zu N) N.length,.fs (zu E) E.length,.fs (nats .i64 cs) cs.length,.int .i64 f]),(1,.cells [.ptr 0 0])],6⟩=some ⟨True,tlV (stL f (u1,u2) [] A).1,⟨[(5,.cells [.str u1,tgV u2]),(4,.cells [.str w1,tgV w2]),(3,.mp es ec),(2,.cells [.str [],.nilS]),(0,.cells [.fs (strs T) T.length,.fs (strs W) W.length,.fs (zu N) N.length,.fs (zu E) E.length,.fs (nats .i64 cs) cs.length,.int .i64 (stL f (u1,u2) [] A).2]),(1,.cells [.ptr 0 0])],6⟩,[0,1],[0]⟩:=
     zp7 (b:=0) (c:=1) (s:=⟨⟨T,W,N,E⟩,cs,f⟩) (u:=(u1,u2)) (j:=[]) (q:=A) (n:=6) (by decide) rfl rfl rfl (.inl rfl) (show u1.length≤1000000000 by omega) (by omega) (show u2.length≤1000000 by omega)
    have oky:=zj3 (f:=f) (q:=A) oku (j:=[]) (by simp)
    generalize stL f (u1,u2) [] A=y at t2 oky er1
    obtain⟨⟨y1,y2⟩,y3⟩:=y
    dsimp only at t2 oky er1
    have ow1:w1.length≤1000:=okv.1
    have ow2:=okv.2
    have oy1:y1.length≤1000:=oky.1
    have oy2:=oky.2
    dsimp only at ow2 oy2
    have t3:=zrt (w1,w2) (y1,y2) (show w1.length≤1000000000 by omega) (show y1.length≤1000000000 by omega) (show w2.length≤1000000 by omega) (show y2.length≤1000000 by omega)
    generalize betT (w1,w2) (y1,y2)=g at t3 er1
    obtain⟨g1,g2⟩:=g
    rw [zeZ]at t2
    rw [zeZ,zeZ,zeZ]at t3
    simp (disch:=first|assumption|(push_cast<;>omega)|omega) only [go_sem,hk',n1,hA,q3,t2,t3]
    (repeat refine sdC ?_)
    simp (disch:=first|assumption|(push_cast<;>omega)|omega) only [go_sem]
    refine zk (i+1) (by omega) (by omega) ?_
    rw [er1]
    refine Sub.oD [] rfl ?_ ?_
    ·simp only [go_sem]
     simp
    ·simp only [go_sem]
     exact zbH ec hpe
  ·obtain rfl:i=T.length+1:=by omega
   rw [←hR]
   obtain⟨⟨r1,r2⟩,r3⟩:=R
   dsimp only
   simp only [go_sem]
   refine AXa.go mixed (hΓ) (zeP) (by kernel_rfl) ?_
   simp (disch:=first|assumption|(push_cast<;>omega)|omega) only [go_sem]
   refine⟨[(10,.ptr 2 0)],Sub.oD [] rfl ?_ ?_,?_⟩
   ·simp only [go_sem]
   ·simp only [go_sem]
   ·simp only [go_sem]
    rfl
end Go.Proofs
