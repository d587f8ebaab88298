/- Rules for maps whose keys are strings and whose values are integers; for storing under a key that is a pair of strings. -/
import Derived.Test.YthbimeikbkjnkaaGreatDoorAbRules
import Derived.Test.YthbimeikbkjnkaaGreatDoorT8
import Derived.Test.YthbimeikbkjnkaaGreatDoorT3
set_option linter.all false
namespace Go.Ab
open Go.Cnt
variable {P:Program}{C:Cfg}{env:Env}{H:Hp}
def zlY:=@zah
theorem zfR(t:TypeId)(x k v:Operand):step1 C P env (.mapUpdate t x k v) H=mkSR false ((ev env x).cond∧(ev env k).cond∧(ev env v).cond) (XR.ar H (zah P t (ev env x).val (ev env k).val (ev env v).val H)) H:=zW rfl (by simp [Op.operands,needs]) rfl
abbrev Ens:=List (Str×Int)
def mpS:Nat→Ens→List (Nat×V×V)
 |_,[]=>[]
 |i,e::l=>(i,.str e.1,.int .i64 e.2)::mpS (i+1) l
theorem zus:∀(i:Nat) (l:Ens),(mpS i l).length=l.length
 |_,[]=>rfl
 |i,e::l=>by rw [mpS,List.length_cons,zus];rfl
attribute [go_sem] zfR zus
end Go.Ab

namespace Go.Ab
variable {P:Program}{C:Cfg}{env:Env}{H:Hp}
def mapI(P:Program)(t:TypeId):Option V:=
 match mapT P t with
 |some (kt,et)=>(match keyT P kt (.int .i64 0),zaK P et with|true,some z=>some (cv z)|_,_=>none)
 |none=>none
theorem zt7 {t:TypeId}{z:V}(h:mapI P t=some z)(n:Int):∃ kt et z0,mapT P t=some (kt,et)∧keyT P kt (.int .i64 n)=true∧zaK P et=some z0∧cv z0=z:=by
 unfold mapI at h;split at h
 ·rename_i kt et hm;split at h
  ·rename_i z0 hk hz;cases h;refine⟨kt,et,z0,hm,?_,hz,rfl⟩;unfold keyT zep at hk ⊢;simp only at hk ⊢;split at hk
   ·rename_i h2;simp_all
   ·rename_i h2;simp_all
   ·simp_all
   ·cases hk
  ·cases h
 ·cases h
def luF(o:Option (Option (Nat×V)))(z:V)(b:Nat)(H:Hp)(orig:Option XR):Option XR:=
 match o with
 |some (some p)=>some ⟨.tup [p.2,.bool true],H,[b],[]⟩
 |some none=>some ⟨.tup [z,.bool false],H,[b],[]⟩
 |none=>orig
def luI(o:Option V)(ob:Option Blk)(b:Nat)(x:Int)(H:Hp)(orig:Option XR):Option XR:=
 match o,ob with
 |some z,some (.mp es _)=>luF (zct (.int .i64 x) es 0) z b H orig
 |_,_=>orig
theorem zpS(t:TypeId)(b:Nat)(x:Int)(bs:List (Nat×Blk))(n:Nat):zaU P t (.map b) (.int .i64 x) true ⟨bs,n⟩=luI (mapI P t) (zaE bs b) b x ⟨bs,n⟩ (xLookup0 P t (.map b) (.int .i64 x) true ⟨bs,n⟩):=by
 unfold luI;split
 ·rename_i z es c hf ho;obtain⟨kt,et,z0,h1,h2,h3,h4⟩:=zt7 hf x;have hg:(⟨bs,n⟩:Hp).get b=some (.mp es c):=(zcl bs b).trans ho;unfold luF;split
  ·rename_i p hp;unfold zaU;simp only [h1,h2,h3,hg,hp];rfl
  ·rename_i hp;unfold zaU;simp only [h1,h2,h3,hg,hp,h4];rfl
  ·rfl
 ·rfl
theorem luI_mp(z:V)(es:List (Nat×V×V))(c b:Nat)(x:Int)(orig:Option XR):luI (some z) (some (.mp es c)) b x H orig=luF (zct (.int .i64 x) es 0) z b H orig:=rfl
theorem luF_s(p:Nat×V)(z:V)(b:Nat)(orig:Option XR):luF (some (some p)) z b H orig=some ⟨.tup [p.2,.bool true],H,[b],[]⟩:=rfl
theorem luF_n(z:V)(b:Nat)(orig:Option XR):luF (some none) z b H orig=some ⟨.tup [z,.bool false],H,[b],[]⟩:=rfl
def muF(o:Option (Option (Nat×V)))(es:List (Nat×V×V))(clock b:Nat)(x:Int)(v:V)(H:Hp)(orig:Option XR):Option XR:=
 match o with
 |some none=>some ⟨undefV,H.put b (.mp (es++[(clock,.int .i64 x,v)]) (clock+1)),[b],[b]⟩
 |_=>orig
def muI(o:Option V)(ob:Option Blk)(b:Nat)(x:Int)(v:V)(H:Hp)(orig:Option XR):Option XR:=
 match o,ob with
 |some _,some (.mp es clock)=>muF (zct (.int .i64 x) es 0) es clock b x v H orig
 |_,_=>orig
theorem ziB(t:TypeId)(b:Nat)(x:Int)(v:V)(bs:List (Nat×Blk))(n:Nat):zah P t (.map b) (.int .i64 x) v ⟨bs,n⟩=muI (mapI P t) (zaE bs b) b x v ⟨bs,n⟩ (zlY P t (.map b) (.int .i64 x) v ⟨bs,n⟩):=by
 unfold muI;split
 ·rename_i z es c hf ho;obtain⟨kt,et,z0,h1,h2,h3,h4⟩:=zt7 hf x;have hg:(⟨bs,n⟩:Hp).get b=some (.mp es c):=(zcl bs b).trans ho;unfold muF;split
  ·rename_i hp;unfold zah;simp only [h1,h2,hg,hp]
  ·rfl
 ·rfl
theorem muI_mp(z:V)(es:List (Nat×V×V))(c b:Nat)(x:Int)(v:V)(orig:Option XR):muI (some z) (some (.mp es c)) b x v H orig=muF (zct (.int .i64 x) es 0) es c b x v H orig:=rfl
theorem muF_n(es:List (Nat×V×V))(c b:Nat)(x:Int)(v:V)(orig:Option XR):muF (some none) es c b x v H orig=some ⟨undefV,H.put b (.mp (es++[(c,.int .i64 x,v)]) (c+1)),[b],[b]⟩:=rfl
theorem zkc(t:TypeId)(x k v:Operand):step1 C P env (.insert t x k v) H=mkSR false ((ev env x).cond∧(ev env k).cond∧(ev env v).cond) (XR.ar H (zah P t (ev env x).val (ev env k).val (ev env v).val H)) H:=zW rfl (by simp [Op.operands,needs]) rfl
def mpI:Nat→List V→List (Nat×V×V)
 |_,[]=>[]
 |i,v::l=>(i,.int .i64 i,v)::mpI (i+1) l
theorem zhE:∀(i:Nat) (l:List V) (v:V),mpI i l++[(i+l.length,.int .i64 (i+l.length:Nat),v)]=mpI i (l++[v])
 |i,[],v=>rfl
 |i,w::l,v=>by rw [mpI,List.cons_append,List.cons_append,mpI,List.length_cons,show i+(l.length+1)=i+1+l.length by omega,zhE (i+1) l v]
theorem zuB(a b:Int):zuC (.int .i64 a) (.int .i64 b)=some (decide (a=b)):=by show some _=_;congr 1
theorem zgv(x:Nat):∀(i:Nat) (l:List V) (j:Nat),i≤x→zct (.int .i64 x) (mpI i l) j=some (match l[x - i]? with|some v=>some (j+(x - i),v)|none=>none)
 |i,[],j,_=>by simp [mpI,zct]
 |i,v::l,j,h=>by
  rw [mpI,zct,zuB];by_cases hx:i=x
  ·subst hx;simp
  ·have e1:decide ((i:Int)=(x:Int))=false:=decide_eq_false (by omega);have e2:decide ((x:Int)=(i:Int))=false:=decide_eq_false (by omega);simp only [e1,e2];rw [zgv x (i+1) l (j+1) (by omega),show x - i=(x - (i+1))+1 by omega,List.getElem?_cons_succ,show j+1+(x - (i+1))=j+(x - (i+1)+1)by omega]
attribute [go_sem] zpS luI_mp luF_s luF_n ziB muI_mp muF_n zkc
end Go.Ab

namespace Go.Proofs
open Go.Ab Go.Cnt Go.Pl Go.Tg
theorem Tryz.mapIL:mapI Tryz.prog 111=some (.agg [.str [],.nilS]):=by kernel_rfl
attribute [go_sem] Tryz.mapIL
def okJ(j:List Nat):Prop:=j=[]∨∃ k,j=[k]
theorem jV_inj {i j:List Nat}(hi:okJ i)(hj:okJ j)(h:jV i=jV j):i=j:=by
 rcases hi with rfl|⟨a,rfl⟩<;>rcases hj with rfl|⟨b,rfl⟩
 ·rfl
 ·simp only [jV]at h;omega
 ·simp only [jV]at h;omega
 ·simp only [jV]at h;have:a=b:=by omega
  rw [this]
def StepR(args:List V)(H:Hp)(r:AR):Prop:=∃(c b:Nat) (s:Run) (u:TL) (j:List Nat) (q:Str),args=[tlV u,.int .i64 (jV j),.str q,.ptr c 0]∧b≠c∧H.get b=some (.cells (runC s))∧H.get c=some (.cells [.ptr b 0])∧(∀ b x,H.get b=some x→b<H.next)∧okJ j∧
 (u.1.length≤1000000000∧q.length≤1000000000∧u.2.length≤1000000)∧r=⟨True,tlV (stL s.f u j q).1,H.put b (.cells (runC ⟨s.m,s.cs,(stL s.f u j q).2⟩)),[b,c],[b]⟩
theorem stepR_ok:∀ args H r,StepR args H r→HCall Tryz.prog 37 args H r:=by
 rintro args H r ⟨c,b,s,u,j,q,rfl,hne,hb,hc,hk,hj,⟨l1,l2,l3⟩,rfl⟩;have tb:zH [b,c] H.next b=0:=by unfold zH;rw [if_pos (hk b _ hb)];simp
 have tc:zH [b,c] H.next c=1:=by unfold zH;rw [if_pos (hk c _ hc)];exact idx1 hne
 refine HCall.of (stL_N s u j hj q l1 l2 l3) [b,c] _ (tlV (stL s.f u j q).1) H _ rfl (by simpa using hne) ?_ (fun i x hx=>?_) (.same (zaV _)) rfl (fun b' x' hx'=>?_) (fun b' hb' hw=>?_)
 ·refine⟨rfl,fun i x y hx hy=>?_⟩;match i with
  |0=>cases hx;cases hy;exact .same (zaV u)
  |1=>cases hx;cases hy;exact .same (.int _ _)
  |2=>cases hx;cases hy;exact .same (.str _)
  |3=>cases hx;cases hy;exact .ptr (π:=fun i=>[b,c].getD i 0) (b:=1) (Nat.lt_succ_self _)
  |i+4=>simp at hx
 ·match i with
  |0=>cases hx;exact⟨b,_,rfl,hb,.cells (zt (za4 s))⟩
  |1=>cases hx;exact⟨c,_,rfl,hc,.cells (za8 (π:=fun i=>[b,c].getD i 0) (b:=0) (r:=[]) (Nat.zero_lt_succ _) rfl (by simp))⟩
  |i+2=>simp at hx
 ·rw [Hp.get_put]at hx';split at hx'
  ·rename_i he;subst he;rw [hb]at hx';cases hx';refine .inr ⟨.inl (by simp),.cells (runC ⟨s.m,s.cs,(stL s.f u j q).2⟩),?_,.cells (zt (za4 _))⟩;rw [tb];rfl
  ·rename_i he;by_cases h2:b'=c
   ·subst h2;rw [hc]at hx';cases hx';refine .inr ⟨.inl (by simp),.cells [.ptr 0 0],by rw [tc];rfl,.cells ?_⟩;exact za8 (r:=[]) (.inl (by simp)) tb (by simp)
   ·exact .inl ⟨hk b' _ hx',by simp [he,h2],hx'⟩
 ·rw [Hp.get_put,if_neg (by simpa using hw)]
theorem stepR_eq {b c:Nat}{s:Run}{u:TL}{j:List Nat}{q:Str}{bs:List (Nat×Blk)}{n:Nat}(hne:b≠c)(hb:zaE bs b=some (.cells (runC s)))(hc:zaE bs c=some (.cells [.ptr b 0]))(hk:((keysB bs).all fun b=>decide (b<n))=true)(hj:okJ j)
 (l1:u.1.length≤1000000000) (l2:q.length≤1000000000) (l3:u.2.length≤1000000):
 conD StepR [tlV u,.int .i64 (jV j),.str q,.ptr c 0] ⟨bs,n⟩=some ⟨True,tlV (stL s.f u j q).1,(⟨bs,n⟩:Hp).put b (.cells (runC ⟨s.m,s.cs,(stL s.f u j q).2⟩)),[b,c],[b]⟩:=by
 refine zax ⟨c,b,s,u,j,q,rfl,hne,by rw [zbg];exact hb,by rw [zbg];exact hc,zbq hk,hj,⟨l1,l2,l3⟩,rfl⟩ fun r' ⟨c',b',s',u',j',q',e1,_,e2,e3,_,hj',_,e4⟩=>?_
 simp only [List.cons.injEq,V.ptr.injEq,V.int.injEq,V.str.injEq,and_true,true_and]at e1
 obtain⟨a1,a2,rfl,rfl⟩:=e1
 have:=zl6 a1
 subst this
 have:=jV_inj hj hj' a2
 subst this
 rw [zbg,hc]at e3
 simp only [Option.some.injEq,Blk.cells.injEq,List.cons.injEq,V.ptr.injEq,and_true]at e3
 subst e3
 rw [zbg,hb]at e2
 simp only [Option.some.injEq,Blk.cells.injEq]at e2
 have:=zee e2
 subst this
 exact e4
noncomputable def ΔF:FuncId→List V→Hp→Option AR:=zcu 34 (conD (MethR mEnds)) (zcu 36 (conD (zxz zhG)) (zcu 37 (conD StepR) noΔ))
theorem zd1:za0 Tryz.prog ΔF:=zas (zaQ (methR_ok mEnds fun _ r h=>ends_N r h)) (zas (zaQ (zjc zhG fun x r h=>zsu r x.1 x.2 h.1 h.2)) (zas (zaQ stepR_ok) zf))
theorem ΔF_ends(b:Nat)(r:Run)(bs:List (Nat×Blk))(n:Nat)(h:r.m.tags.length≤1000000)(hb:zaE bs b=some (.cells (runC r)))(hk:((keysB bs).all fun b=>decide (b<n))=true):
 ΔF 34 [.ptr b 0] ⟨bs,n⟩=some ⟨True,.int .i64 r.m.tags.length,⟨bs,n⟩,[b],[]⟩:=methR_eq mEnds (x:=()) (s:=r) h hb hk
theorem zsa(b:Nat)(r:Run)(p q:Str)(bs:List (Nat×Blk))(n:Nat)(lp:p.length≤1000000000)(lq:q.length≤1000000000)(hb:zaE bs b=some (.cells (runC r)))(hk:((keysB bs).all fun b=>decide (b<n))=true):
 ΔF 36 [.ptr b 0,.str p,.str q] ⟨bs,n⟩=some ⟨True,.str (tm r.f p q).1,(⟨bs,n⟩:Hp).put b (.cells (runC ⟨r.m,r.cs,(tm r.f p q).2⟩)),[b],[b]⟩:=zjd zhG (x:=(p,q)) (s:=r) ⟨lp,lq⟩ hb hk
theorem znR {b c:Nat}{s:Run}{u:TL}{j:List Nat}{q:Str}{bs:List (Nat×Blk)}{n:Nat}(hne:b≠c)(hb:zaE bs b=some (.cells (runC s)))(hc:zaE bs c=some (.cells [.ptr b 0]))(hk:((keysB bs).all fun b=>decide (b<n))=true)(hj:okJ j)
 (l1:u.1.length≤1000000000) (l2:q.length≤1000000000) (l3:u.2.length≤1000000):
 ΔF 37 [tlV u,.int .i64 (jV j),.str q,.ptr c 0] ⟨bs,n⟩=some ⟨True,tlV (stL s.f u j q).1,(⟨bs,n⟩:Hp).put b (.cells (runC ⟨s.m,s.cs,(stL s.f u j q).2⟩)),[b,c],[b]⟩:=stepR_eq hne hb hc hk hj l1 l2 l3
def okT(B:Nat)(x:TL):Prop:=x.1.length≤1000∧x.2.length≤B
theorem zo3 {B:Nat}{x y:TL}(hx:okT B x)(hy:okT B y):okT B (betT x y):=by unfold betT;split<;>assumption
theorem zir {B:Nat}{f:Int}{u:TL}{j:List Nat}{q:Str}(hu:okT B u)(hj:j.length≤1):okT (B+1) (stL f u j q).1:=by
 unfold stL;split
 ·exact⟨zsr _ _ _,by simp⟩
 ·exact⟨zsr _ _ _,by have:=hu.2;simp only [List.length_append];omega⟩
theorem ziz {B:Nat}{m:Mdl}{bef:Nat→Option TL}(hb:∀ i u,bef i=some u→okT B u)(j c:Nat)(f:Int):∀ k,okT (B+1) (row1 stL plL m ([48],[]) bef j c f k).1
 |0=>⟨by simp [row1],by simp [row1]⟩
 |k+1=>by
  have ih:=ziz (m:=m) hb j c f k;rw [row1];cases h:bef k with
  |none=>exact ih
  |some u=>exact zo3 ih (zir (hb k u h) (by simp))
theorem zn6 {B:Nat}{m:Mdl}{bef:Nat→Option TL}(hb:∀ i u,bef i=some u→okT B u)(c:Nat)(f:Int):∀ k,∀ x∈(rowK stL plL m ([48],[]) bef c f k).1,okT (B+1) x
 |0,x,h=>by simp [rowK]at h
 |k+1,x,h=>by
  rw [rowK]at h;rcases List.mem_append.1 h with h|h
  ·exact zn6 hb c f k x h
  ·rw [List.mem_singleton.1 h];exact ziz hb _ _ _ _
theorem zeC {B:Nat}{m:Mdl}{t:Nat}{l:List TL}(h:∀ x∈l,okT B x):∀ i u,befT m ([49],[]) t l i=some u→okT B u:=by
 intro i u e;unfold befT at e;split at e
 ·split at e
  ·cases e;exact⟨by simp,by simp⟩
  ·cases e
 ·exact h u (List.mem_of_getElem? e)
theorem zes(m:Mdl)(cs:List Nat):∀ t,∀ x∈(fwdT stL plL m ([48],[]) ([49],[]) cs t).1,okT t x
 |0,x,h=>by simp [fwdT]at h
 |t+1,x,h=>zn6 (zeC (zes m cs t)) _ _ _ x h
theorem zfy {B:Nat}{m:Mdl}{bef:Nat→Option TL}(hb:∀ i u,bef i=some u→okT B u)(f:Int):∀ k,okT (B+1) (fin1 stL plL m ([48],[]) bef f k).1
 |0=>⟨by simp [fin1],by simp [fin1]⟩
 |k+1=>by
  have ih:=zfy (m:=m) hb f k;rw [fin1];cases h:bef k with
  |none=>exact ih
  |some u=>exact zo3 ih (zir (hb k u h) (by simp))
def befE(n t:Nat)(fst:V)(l:List V):List (Nat×V×V):=if t=0 then [(0,.int .i64 n,fst)]else mpI 0 l
def befC(t:Nat)(l:List V):Nat:=if t=0 then 1 else l.length
theorem zlM {m:Mdl}{t:Nat}{l:List TL}{i:Nat}(fst:TL){o:Option TL}(h:befT m fst t l i=o):∃ k,zct (.int .i64 i) (befE m.tags.length t (tlV fst) (l.map tlV)) 0=some (match o with|some u=>some (k,tlV u)|none=>none):=by
 unfold befT at h;unfold befE;by_cases ht:t=0
 ·rw [if_pos ht]at h ⊢;rw [zct,zuB];by_cases hi:i=m.tags.length
  ·rw [if_pos hi]at h;subst h;rw [decide_eq_true (by omega)];exact⟨0,rfl⟩
  ·rw [if_neg hi]at h;subst h;rw [decide_eq_false (by omega)];exact⟨0,rfl⟩
 ·rw [if_neg ht]at h ⊢;rw [zgv i 0 _ 0 (Nat.zero_le _),Nat.sub_zero,List.getElem?_map,h];cases o with
  |none=>exact⟨0,rfl⟩
  |some u=>exact⟨0+i,rfl⟩
end Go.Proofs
