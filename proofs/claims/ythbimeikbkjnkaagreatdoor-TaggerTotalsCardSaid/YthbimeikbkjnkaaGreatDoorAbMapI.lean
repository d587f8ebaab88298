/- Rules for maps whose keys are integers, filled in their order. -/
import Derived.Test.YthbimeikbkjnkaaGreatDoorT6
import Derived.Test.YthbimeikbkjnkaaGreatDoorTgLaw
set_option linter.all false
namespace Go.Ab
variable {P:Program}{C:Cfg}{env:Env}{H:Hp}
def mapI(P:Program)(t:TypeId):Option V:=
 match mapT P t with
 |some (kt,et)=>(match keyT P kt (.int .i64 0),zaX P et with|true,some z=>some (cv z)|_,_=>none)
 |none=>none
theorem zwv {t:TypeId}{z:V}(h:mapI P t=some z)(n:Int):∃ kt et z0,mapT P t=some (kt,et)∧keyT P kt (.int .i64 n)=true∧zaX P et=some z0∧cv z0=z:=by
 unfold mapI at h;split at h
 ·rename_i kt et hm;split at h
  ·rename_i z0 hk hz;cases h;refine⟨kt,et,z0,hm,?_,hz,rfl⟩;unfold keyT zfc at hk ⊢;simp only at hk ⊢;split at hk
   ·rename_i h2;simp_all
   ·rename_i h2;simp_all
   ·simp_all
   ·cases hk
  ·cases h
 ·cases h
def luF(o:Option (Option (Nat×V)))(z:V)(b:Nat)(H:Hp)(orig:Option XR):Option XR:=
 match o with
 |some (some p)=>some ⟨.tup [p.2,.bool true],H,[b],[]⟩
 |some none=>some ⟨.tup [z,.bool false],H,[b],[]⟩
 |none=>orig
def luI(o:Option V)(ob:Option Blk)(b:Nat)(x:Int)(H:Hp)(orig:Option XR):Option XR:=
 match o,ob with
 |some z,some (.mp es _)=>luF (zdp (.int .i64 x) es 0) z b H orig
 |_,_=>orig
theorem zrN(t:TypeId)(b:Nat)(x:Int)(bs:List (Nat×Blk))(n:Nat):za8 P t (.map b) (.int .i64 x) true ⟨bs,n⟩=luI (mapI P t) (zaF bs b) b x ⟨bs,n⟩ (xLookup0 P t (.map b) (.int .i64 x) true ⟨bs,n⟩):=by
 unfold luI;split
 ·rename_i z es c hf ho;obtain⟨kt,et,z0,h1,h2,h3,h4⟩:=zwv hf x;have hg:(⟨bs,n⟩:Hp).get b=some (.mp es c):=(zcJ bs b).trans ho;unfold luF;split
  ·rename_i p hp;unfold za8;simp only [h1,h2,h3,hg,hp];rfl
  ·rename_i hp;unfold za8;simp only [h1,h2,h3,hg,hp,h4];rfl
  ·rfl
 ·rfl
theorem luI_mp(z:V)(es:List (Nat×V×V))(c b:Nat)(x:Int)(orig:Option XR):luI (some z) (some (.mp es c)) b x H orig=luF (zdp (.int .i64 x) es 0) z b H orig:=rfl
theorem luF_s(p:Nat×V)(z:V)(b:Nat)(orig:Option XR):luF (some (some p)) z b H orig=some ⟨.tup [p.2,.bool true],H,[b],[]⟩:=rfl
theorem luF_n(z:V)(b:Nat)(orig:Option XR):luF (some none) z b H orig=some ⟨.tup [z,.bool false],H,[b],[]⟩:=rfl
def muF(o:Option (Option (Nat×V)))(es:List (Nat×V×V))(clock b:Nat)(x:Int)(v:V)(H:Hp)(orig:Option XR):Option XR:=
 match o with
 |some none=>some ⟨undefV,H.put b (.mp (es++[(clock,.int .i64 x,v)]) (clock+1)),[b],[b]⟩
 |_=>orig
def muI(o:Option V)(ob:Option Blk)(b:Nat)(x:Int)(v:V)(H:Hp)(orig:Option XR):Option XR:=
 match o,ob with
 |some _,some (.mp es clock)=>muF (zdp (.int .i64 x) es 0) es clock b x v H orig
 |_,_=>orig
theorem zjV(t:TypeId)(b:Nat)(x:Int)(v:V)(bs:List (Nat×Blk))(n:Nat):zas P t (.map b) (.int .i64 x) v ⟨bs,n⟩=muI (mapI P t) (zaF bs b) b x v ⟨bs,n⟩ (znt P t (.map b) (.int .i64 x) v ⟨bs,n⟩):=by
 unfold muI;split
 ·rename_i z es c hf ho;obtain⟨kt,et,z0,h1,h2,h3,h4⟩:=zwv hf x;have hg:(⟨bs,n⟩:Hp).get b=some (.mp es c):=(zcJ bs b).trans ho;unfold muF;split
  ·rename_i hp;unfold zas;simp only [h1,h2,hg,hp]
  ·rfl
 ·rfl
theorem muI_mp(z:V)(es:List (Nat×V×V))(c b:Nat)(x:Int)(v:V)(orig:Option XR):muI (some z) (some (.mp es c)) b x v H orig=muF (zdp (.int .i64 x) es 0) es c b x v H orig:=rfl
theorem muF_n(es:List (Nat×V×V))(c b:Nat)(x:Int)(v:V)(orig:Option XR):muF (some none) es c b x v H orig=some ⟨undefV,H.put b (.mp (es++[(c,.int .i64 x,v)]) (c+1)),[b],[b]⟩:=rfl
theorem zlr(t:TypeId)(x k v:Operand):step1 C P env (.insert t x k v) H=mkSR false ((ev env x).cond∧(ev env k).cond∧(ev env v).cond) (XR.ar H (zas P t (ev env x).val (ev env k).val (ev env v).val H)) H:=zZ rfl (by simp [Op.operands,needs]) rfl
def mpI:Nat→List V→List (Nat×V×V)
 |_,[]=>[]
 |i,v::l=>(i,.int .i64 i,v)::mpI (i+1) l
theorem ziW:∀(i:Nat) (l:List V) (v:V),mpI i l++[(i+l.length,.int .i64 (i+l.length:Nat),v)]=mpI i (l++[v])
 |i,[],v=>rfl
 |i,w::l,v=>by rw [mpI,List.cons_append,List.cons_append,mpI,List.length_cons,show i+(l.length+1)=i+1+l.length by omega,ziW (i+1) l v]
theorem zwY(a b:Int):zwZ (.int .i64 a) (.int .i64 b)=some (decide (a=b)):=by show some _=_;congr 1
theorem zhz(x:Nat):∀(i:Nat) (l:List V) (j:Nat),i≤x→zdp (.int .i64 x) (mpI i l) j=some (match l[x - i]? with|some v=>some (j+(x - i),v)|none=>none)
 |i,[],j,_=>by simp [mpI,zdp]
 |i,v::l,j,h=>by
  rw [mpI,zdp,zwY];by_cases hx:i=x
  ·subst hx;simp
  ·have e1:decide ((i:Int)=(x:Int))=false:=decide_eq_false (by omega);have e2:decide ((x:Int)=(i:Int))=false:=decide_eq_false (by omega);simp only [e1,e2];rw [zhz x (i+1) l (j+1) (by omega),show x - i=(x - (i+1))+1 by omega,List.getElem?_cons_succ,show j+1+(x - (i+1))=j+(x - (i+1)+1)by omega]
attribute [go_sem] zrN luI_mp luF_s luF_n zjV muI_mp muF_n zlr
end Go.Ab

namespace Go.Proofs
open Go.Ab Go.Cnt Go.Pl Go.Tg
theorem Tryz.mapIS:mapI Tryz.prog 102=some (.str []):=by kernel_rfl
attribute [go_sem] Tryz.mapIS
def befE(n t:Nat)(fst:V)(l:List V):List (Nat×V×V):=if t=0 then [(0,.int .i64 n,fst)]else mpI 0 l
def befC(t:Nat)(l:List V):Nat:=if t=0 then 1 else l.length
end Go.Proofs

namespace Go.Proofs
open Go.Ab Go.Cnt Go.Pl Go.Tg
def zAz(es:List (Nat×V×V)):Prop:=∀ e∈es,Pure e.2.1∧Pure e.2.2
theorem zev {π:Nat→Nat}{N:Nat→Prop}{es:List (Nat×V×V)}(c:Nat)(h:zAz es):RnB π N (.mp es c) (.mp es c):=
 .mp rfl (zt fun x hx=>by obtain⟨e,he,rfl⟩:=List.mem_map.1 hx;exact(h e he).1) (zt fun x hx=>by obtain⟨e,he,rfl⟩:=List.mem_map.1 hx;exact(h e he).2)
theorem zdk:∀(i:Nat) (l:List V),(∀ x∈l,Pure x)→zAz (mpI i l)
 |_,[],_,e,h=>by cases h
 |i,v::l,hl,e,h=>by
  rcases List.mem_cons.1 h with rfl|h
  ·exact⟨.int _ _,hl v (by simp)⟩
  ·exact zdk (i+1) l (fun x hx=>hl x (by simp [hx])) e h
theorem zhR {n t:Nat}{v:V}{l:List V}(hv:Pure v)(hl:∀ x∈l,Pure x):zAz (befE n t v l):=by
 unfold befE;split
 ·intro e h;rw [List.mem_singleton.1 h];exact⟨.int _ _,hv⟩
 ·exact zdk 0 l hl
theorem zzG(n:Nat)(v:V)(l:List V):befE n 0 v l=[(0,.int .i64 n,v)]:=rfl
theorem zzI(l:List V):befC 0 l=1:=rfl
theorem zzH(n t:Nat)(v:V)(l:List V):befE n (t+1) v l=mpI 0 l:=rfl
theorem zzJ(t:Nat)(l:List V):befC (t+1) l=l.length:=rfl
theorem zs9(k:V)(j:Nat):zdp k [] j=some none:=rfl
end Go.Proofs

namespace Go.Proofs
open Go.Ab Go.Cnt Go.Pl Go.Tg
theorem HCall.two {f:FuncId}{args args':List V}{v:V}{s s':Run}(hN:NCall Tryz.prog f args [.cells (runC s),.cells [.ptr 0 0]] [0] v ⟨[(0,.cells (runC s')),(1,.cells [.ptr 0 0])],2⟩)(hv:Pure v)(b c:Nat)(H:Hp)
 (ha:LRel (Rn (fun i=>[b,c].getD i 0) (· <2)) args args') (hne:b≠c) (hb:H.get b=some (.cells (runC s))) (hc:H.get c=some (.cells [.ptr b 0])) (hk:∀ b x,H.get b=some x→b<H.next):
 HCall Tryz.prog f args' H ⟨True,v,H.put b (.cells (runC s')),[b,c],[b]⟩:=by
 have tb:zU [b,c] H.next b=0:=by unfold zU;rw [if_pos (hk b _ hb)];simp
 have tc:zU [b,c] H.next c=1:=by unfold zU;rw [if_pos (hk c _ hc)];exact idx1 hne
 refine HCall.of hN [b,c] args' v H _ rfl (by simpa using hne) ha (fun i x hx=>?_) (.same hv) rfl (fun b' x' hx'=>?_) (fun b' hb' hw=>?_)
 ·match i with
  |0=>cases hx;exact⟨b,_,rfl,hb,.cells (zt (zb2 s))⟩
  |1=>cases hx;exact⟨c,_,rfl,hc,.cells (zcg (π:=fun i=>[b,c].getD i 0) (b:=0) (r:=[]) (Nat.zero_lt_succ _) rfl (by simp))⟩
  |i+2=>simp at hx
 ·rw [Hp.get_put]at hx'
  split at hx'
  ·rename_i he
   subst he
   rw [hb]at hx'
   cases hx'
   refine .inr ⟨.inl (by simp),.cells (runC s'),?_,.cells (zt (zb2 _))⟩
   rw [tb];rfl
  ·rename_i he
   by_cases h2:b'=c
   ·subst h2
    rw [hc]at hx'
    cases hx'
    refine .inr ⟨.inl (by simp),.cells [.ptr 0 0],by rw [tc];rfl,.cells ?_⟩
    exact zcg (r:=[]) (.inl (by simp)) tb (by simp)
   ·exact .inl ⟨hk b' _ hx',by simp [he,h2],hx'⟩
 ·rw [Hp.get_put,if_neg (by simpa using hw)]
structure RunOK(m:Mdl)(cs:List Nat):Prop where
 v:vmB m=true
 f:Fit m
 l:cs.length≤1000
 c:∀ i,i<cs.length→cs.getD i 0≤m.words.length
 s:∀ i j,(nx m i j).length≤1000000000∧(em m i j).length≤1000000000
end Go.Proofs

namespace Go.Proofs
open Go.Ab Go.Cnt Go.Pl Go.Tg
def plS(f:Int)(a b:Str):Str×Int:=ps f a b
theorem ziR(a b:Str):(ps 2 a b).2=2:=kn_two _
theorem zkb(f:Int)(v u:Str)(j:List Nat)(a b:Str):one stS plS f v u j a b=ps (tm (tm f a b).2 u (tm f a b).1).2 v (tm (tm f a b).2 u (tm f a b).1).1:=by simp only [one,plS,stS]
theorem ze2(f:Int)(v u:Str)(a:Str):one' stS plS f v u a=ps (tm f u a).2 v (tm f u a).1:=by simp only [one',plS,stS]
theorem zp1(v u:Str)(j:List Nat)(a b:Str):(one stS plS 2 v u j a b).2=2:=by rw [zkb,zlk,zlk,ziR]
theorem oneS_oc {B:Prop}{Y x y p q vv cu:Nat}{v u a b:Str}(j:List Nat)(hv:Is v vv (Y*(y*q)))(hu:Is u cu Y)(ha:Is a x y)(hb:Is b p q)
 (h1:B→x*p<10 ^ 400∧y*q<10 ^ 400) (h2:B→cu*(x*p)<10 ^ 400∧Y*(y*q)<10 ^ 400) (h3:B→vv+cu*(x*p)<10 ^ 400):
 Oc B (one stS plS 0 v u j a b).2 (Is (one stS plS 0 v u j a b).1 (vv+cu*(x*p)) (Y*(y*q))):=by
 rw [zkb]
 rcases tm_oc ha hb h1 with⟨e,hi⟩|⟨e,hn⟩
 ·rw [e]
  rcases tm_oc hu hi h2 with⟨e2,hi2⟩|⟨e2,hn2⟩
  ·rw [e2]
   exact ps_oc hv hi2 fun hb=>⟨h3 hb,(h2 hb).2⟩
  ·rw [e2]
   exact .inr ⟨ziR _ _,hn2⟩
 ·rw [e,zlk,ziR]
  exact .inr ⟨rfl,hn⟩
theorem zuK {ι:Type}(f:ι→Nat)(c:Nat):∀ l:List ι,(∀ i∈l,f i≤c)→(l.map f).sum≤l.length*c
 |[],_=>by simp
 |i::l,h=>by have h1:=h i (by simp);have h2:=zuK f c l fun j hj=>h j (by simp [hj]);simp only [List.map_cons,List.sum_cons,List.length_cons,Nat.add_mul,Nat.one_mul];omega
def pS(n t:Nat)(g:Nat→Nat)(k:Nat):Nat:=(List.range k).foldl (fun v i=>if i∈src n t then v+g i else v) 0
theorem zn6(n t:Nat)(g:Nat→Nat)(k:Nat):pS n t g (k+1)=if k∈src n t then pS n t g k+g k else pS n t g k:=by unfold pS;rw [List.range_succ,List.foldl_append];rfl
theorem zvZ(n t:Nat)(g:Nat→Nat){k l:Nat}(h:k≤l):pS n t g k≤pS n t g l:=by
 induction l with
 |zero=>rw [Nat.le_zero.1 h];exact Nat.le_refl _
 |succ l ih=>
  rcases Nat.lt_or_ge k (l+1)with h'|h'
  ·refine Nat.le_trans (ih (by omega)) ?_;rw [zn6];split
   ·exact Nat.le_add_right _ _
   ·exact Nat.le_refl _
  ·rw [Nat.le_antisymm h h'];exact Nat.le_refl _
theorem zpY(n t:Nat)(g:Nat→Nat):pS n t g (n+1)=(src n t).foldl (fun v i=>v+g i) 0:=(src_fold n t (fun v i=>v+g i) 0).symm
section
variable {m:Mdl}{cs:List Nat}{N:Nat→Nat→Nat→Nat}{E:Nat→Nat→Nat}{b:Nat→Nat}{DN DE:Nat→Nat}{Df:Nat}
theorem zvb(H:Nums m cs N E b DN DE Df)(h3:m.tags.length≤3):∀ t i,t≤cs.length→i∈src m.tags.length t→sfw m.tags.length (wN N E) t i≤3 ^ t*YY DN DE t
 |0,i,_,_=>Nat.le_refl _
 |t+1,j,ht,hj=>by
  have hj':j<m.tags.length:=by simpa [src] using hj
  rw [sfw,zb7,Nat.zero_add];have key:=zuK (fun i=>sfw m.tags.length (wN N E) t i*wN N E t i j) (3 ^ t*YY DN DE t*(DN t*DE t)) (src m.tags.length t) fun i hi=>by exact Nat.mul_le_mul (zvb H h3 t i (by omega) hi) (Nat.mul_le_mul (H.n t i j (by omega) hi hj').2 (H.e t j (by omega) hj').2)
  refine Nat.le_trans key (Nat.le_trans (Nat.mul_le_mul_right _ (zjM h3)) (Nat.le_of_eq ?_));rw [YY,Nat.pow_succ];ac_rfl
theorem sfin_le(H:Nums m cs N E b DN DE Df)(h3:m.tags.length≤3):sfin m.tags.length (wN N E) b cs.length≤3 ^ (cs.length+1)*(YY DN DE cs.length*Df):=by
 rw [sfin,zb7,Nat.zero_add];have key:=zuK (fun i=>sfw m.tags.length (wN N E) cs.length i*b i) (3 ^ cs.length*YY DN DE cs.length*Df) (src m.tags.length cs.length) fun i hi=>
  Nat.mul_le_mul (zvb H h3 cs.length i (Nat.le_refl _) hi) (H.f i hi).2
 refine Nat.le_trans key (Nat.le_trans (Nat.mul_le_mul_right _ (zjM h3)) (Nat.le_of_eq ?_));rw [Nat.pow_succ];ac_rfl
theorem p3_le {k:Nat}(h:k≤5):3 ^ k≤10 ^ 4:=Nat.le_trans (Nat.pow_le_pow_right (by decide) h) (by decide)
theorem sfw_lt(H:Nums m cs N E b DN DE Df)(h3:m.tags.length≤3)(h4:cs.length≤4)(hB:10 ^ 4*(YY DN DE cs.length*Df)<10 ^ 400)(t i:Nat)(ht:t≤cs.length)(hi:i∈src m.tags.length t):sfw m.tags.length (wN N E) t i<10 ^ 400:=by have k1:=zpt H ht;have k2:=Nat.le_mul_of_pos_right (YY DN DE cs.length) H.pf;exact Nat.lt_of_le_of_lt (Nat.le_trans (zvb H h3 t i ht hi) (Nat.mul_le_mul (p3_le (by omega)) (Nat.le_trans k1 k2))) hB
theorem zvc(H:Nums m cs N E b DN DE Df)(h3:m.tags.length≤3)(h4:cs.length≤4)(hB:10 ^ 4*(YY DN DE cs.length*Df)<10 ^ 400):sfin m.tags.length (wN N E) b cs.length<10 ^ 400:=
 Nat.lt_of_le_of_lt (Nat.le_trans (sfin_le H h3) (Nat.mul_le_mul_right _ (p3_le (by omega)))) hB
theorem YF_lt(hB:10 ^ 4*(YY DN DE cs.length*Df)<10 ^ 400):YY DN DE cs.length*Df<10 ^ 400:=Nat.lt_of_le_of_lt (Nat.le_mul_of_pos_left _ (by decide)) hB
theorem YY_lt(H:Nums m cs N E b DN DE Df)(hB:10 ^ 4*(YY DN DE cs.length*Df)<10 ^ 400){t:Nat}(ht:t≤cs.length):YY DN DE t<10 ^ 400:=
 Nat.lt_of_le_of_lt (Nat.le_trans (zpt H ht) (Nat.le_mul_of_pos_right _ H.pf)) (YF_lt hB)
def Bd(B:Prop)(m:Mdl)(cs:List Nat)(DN DE:Nat→Nat)(Df:Nat):Prop:=B→m.tags.length≤3∧cs.length≤4∧10 ^ 4*(YY DN DE cs.length*Df)<10 ^ 400
def zq0(m:Mdl)(N:Nat→Nat→Nat→Nat)(E:Nat→Nat→Nat)(DN DE:Nat→Nat)(t:Nat)(bef:Nat→Option Str):Prop:=
 ∀ i,i≤m.tags.length→(i∈src m.tags.length t→∃ u,bef i=some u∧Is u (sfw m.tags.length (wN N E) t i) (YY DN DE t))∧(i∉src m.tags.length t→bef i=none)
theorem zeX(bef:Nat→Option Str)(j c:Nat):∀ k,(row1 stS plS m [48] bef j c 2 k).2=2
 |0=>rfl
 |k+1=>by
  rw [row1];cases bef k with
  |none=>exact zeX bef j c k
  |some u=>dsimp only;rw [zeX bef j c k];exact zp1 _ _ _ _ _
theorem zpU {B:Prop}(H:Nums m cs N E b DN DE Df)(hB:Bd B m cs DN DE Df){t j:Nat}(ht:t<cs.length)(hj:j<m.tags.length){bef:Nat→Option Str}(hs:zq0 m N E DN DE t bef):
 ∀ k,k≤m.tags.length+1→Oc B (row1 stS plS m [48] bef j (cs.getD t 0) 0 k).2 (Is (row1 stS plS m [48] bef j (cs.getD t 0) 0 k).1 (pS m.tags.length t (fun i=>sfw m.tags.length (wN N E) t i*wN N E t i j) k) (YY DN DE (t+1)))
 |0,_=>.inl ⟨rfl,zou (znp H _)⟩
 |k+1,hk=>by
  have ih:=zpU H hB ht hj hs k (by omega);have htot:sfw m.tags.length (wN N E) (t+1) j=pS m.tags.length t (fun i=>sfw m.tags.length (wN N E) t i*wN N E t i j) (m.tags.length+1):=(zpY _ _ _).symm;have hmono:=zvZ m.tags.length t (fun i=>sfw m.tags.length (wN N E) t i*wN N E t i j) hk;rw [row1];rw [zn6]at hmono ⊢;obtain⟨h1,h2⟩:=hs k (by omega);by_cases hk':k∈src m.tags.length t
  ·obtain⟨u,hu,hr⟩:=h1 hk';rw [if_pos hk']at hmono ⊢;rw [hu];dsimp only at hmono ⊢;rcases ih with⟨e,hi⟩|⟨e,hn⟩
   ·rw [e];obtain⟨n1,n2⟩:=H.n t k j ht hk' hj;obtain⟨e1,e2⟩:=H.e t j ht hj;have hsm:B→pS m.tags.length t (fun i=>sfw m.tags.length (wN N E) t i*wN N E t i j) k+sfw m.tags.length (wN N E) t k*(N t k j*E t j)<10 ^ 400:=fun hb=>by obtain⟨b1,b2,b3⟩:=hB hb;refine Nat.lt_of_le_of_lt hmono ?_;rw [←htot];exact sfw_lt H b1 b2 b3 (t+1) j (by omega) (by simpa [src] using hj)
    have hYT:B→YY DN DE (t+1)<10 ^ 400:=fun hb=>YY_lt H (hB hb).2.2 (by omega);refine oneS_oc [j] hi hr n1 e1 (fun hb=>⟨?_,?_⟩) (fun hb=>⟨?_,hYT hb⟩) hsm
    ·exact Nat.lt_of_le_of_lt (Nat.le_trans (Nat.mul_le_mul n2 e2) (DD_le H t)) (hYT hb)
    ·exact Nat.lt_of_le_of_lt (DD_le H t) (hYT hb)
    ·exact Nat.lt_of_le_of_lt (Nat.le_add_left _ _) (hsm hb)
   ·exact .inr ⟨by rw [e];exact zp1 _ _ _ _ _,hn⟩
  ·rw [h2 hk',if_neg hk'];exact ih
theorem zlA(bef:Nat→Option Str)(c:Nat):∀ k,(rowK stS plS m [48] bef c 2 k).2=2
 |0=>rfl
 |k+1=>by rw [rowK];dsimp only;rw [zlA bef c k];exact zeX _ _ _ _
theorem zpT {B:Prop}(H:Nums m cs N E b DN DE Df)(hB:Bd B m cs DN DE Df){t:Nat}(ht:t<cs.length){bef:Nat→Option Str}(hs:zq0 m N E DN DE t bef):
 ∀ k,k≤m.tags.length→Oc B (rowK stS plS m [48] bef (cs.getD t 0) 0 k).2 (∀ j,j<k→∃ u,(rowK stS plS m [48] bef (cs.getD t 0) 0 k).1[j]? =some u∧Is u (sfw m.tags.length (wN N E) (t+1) j) (YY DN DE (t+1)))
 |0,_=>.inl ⟨rfl,fun j hj=>by omega⟩
 |k+1,hk=>by
  have hl:=zeW stS plS m [48] bef (cs.getD t 0) 0 k;rw [rowK];dsimp only;rcases zpT H hB ht hs k (by omega)with⟨e,hi⟩|⟨e,hn⟩
  ·rw [e];have ho:=zpU H hB ht (show k<m.tags.length by omega) hs (m.tags.length+1) (Nat.le_refl _);rw [zpY]at ho;rcases ho with⟨e2,h2⟩|⟨e2,hn⟩
   ·refine .inl ⟨e2,fun j hj=>?_⟩;rcases Nat.lt_or_ge j k with h|h
    ·obtain⟨u,hu,hr⟩:=hi j h;exact⟨u,by rw [List.getElem?_append_left (by omega)];exact hu,hr⟩
    ·have:j=k:=by omega
     subst this;refine⟨_,by rw [List.getElem?_append_right (by omega),hl,Nat.sub_self];rfl,?_⟩;rw [sfw];exact h2
   ·exact .inr ⟨e2,hn⟩
  ·exact .inr ⟨by rw [e];exact zeX _ _ _ _,hn⟩
theorem zxo {B:Prop}(H:Nums m cs N E b DN DE Df)(hB:Bd B m cs DN DE Df):∀ t,t≤cs.length→Oc B (fwdT stS plS m [48] [49] cs t).2 (zq0 m N E DN DE t (befT m [49] t (fwdT stS plS m [48] [49] cs t).1))
 |0,_=>.inl ⟨rfl,fun i hi=>by
  unfold befT;simp only [if_true,src,List.mem_singleton];constructor
  ·intro h;rw [if_pos h];exact⟨_,rfl,is_one⟩
  ·intro h;rw [if_neg h]⟩
 |t+1,ht=>by
  rw [fwdT];rcases zxo H hB t (by omega)with⟨e,hi⟩|⟨e,hn⟩
  ·rw [e];have hl:=zeW stS plS m [48] (befT m [49] t (fwdT stS plS m [48] [49] cs t).1) (cs.getD t 0) 0 m.tags.length;rcases zpT H hB (show t<cs.length by omega) hi m.tags.length (Nat.le_refl _)with⟨e2,h2⟩|⟨e2,hn⟩
   ·refine .inl ⟨e2,fun i hi=>?_⟩;have es:src m.tags.length (t+1)=List.range m.tags.length:=by simp [src]
    rw [show ∀ l:List Str,befT m [49] (t+1) l i=l[i]? from fun l=>if_neg (by omega),es,List.mem_range];refine⟨fun h=>h2 i h,fun h=>?_⟩;rw [List.getElem?_eq_none (by rw [hl];omega)]
   ·exact .inr ⟨e2,hn⟩
  ·exact .inr ⟨by rw [e];exact zlA _ _ _,hn⟩
theorem zhB(bef:Nat→Option Str):∀ k,(fin1 stS plS m [48] bef 2 k).2=2
 |0=>rfl
 |k+1=>by
  rw [fin1];cases bef k with
  |none=>exact zhB bef k
  |some u=>dsimp only;rw [zhB bef k,ze2,zlk,ziR]
theorem zqo {B:Prop}(H:Nums m cs N E b DN DE Df)(hB:Bd B m cs DN DE Df){bef:Nat→Option Str}(hs:zq0 m N E DN DE cs.length bef):
 ∀ k,k≤m.tags.length+1→Oc B (fin1 stS plS m [48] bef 0 k).2 (Is (fin1 stS plS m [48] bef 0 k).1 (pS m.tags.length cs.length (fun i=>sfw m.tags.length (wN N E) cs.length i*b i) k) (YY DN DE cs.length*Df))
 |0,_=>.inl ⟨rfl,zou (Nat.mul_pos (znp H _) H.pf)⟩
 |k+1,hk=>by
  have ih:=zqo H hB hs k (by omega);have htot:sfin m.tags.length (wN N E) b cs.length=pS m.tags.length cs.length (fun i=>sfw m.tags.length (wN N E) cs.length i*b i) (m.tags.length+1):=(zpY _ _ _).symm;have hmono:=zvZ m.tags.length cs.length (fun i=>sfw m.tags.length (wN N E) cs.length i*b i) hk;rw [fin1];rw [zn6]at hmono ⊢;obtain⟨h1,h2⟩:=hs k (by omega);by_cases hk':k∈src m.tags.length cs.length
  ·obtain⟨u,hu,hr⟩:=h1 hk';rw [if_pos hk']at hmono ⊢;rw [hu];dsimp only at hmono ⊢;rcases ih with⟨e,hi⟩|⟨e,hn⟩
   ·rw [e];obtain⟨n1,n2⟩:=H.f k hk';rw [ze2];have hsm:B→pS m.tags.length cs.length (fun i=>sfw m.tags.length (wN N E) cs.length i*b i) k+sfw m.tags.length (wN N E) cs.length k*b k<10 ^ 400:=fun hb=>by obtain⟨b1,b2,b3⟩:=hB hb;refine Nat.lt_of_le_of_lt hmono ?_;rw [←htot];exact zvc H b1 b2 b3
    have hYF:B→YY DN DE cs.length*Df<10 ^ 400:=fun hb=>YF_lt (hB hb).2.2;rcases tm_oc (B:=B) hr n1 (fun hb=>⟨Nat.lt_of_le_of_lt (Nat.le_add_left _ _) (hsm hb),hYF hb⟩)with⟨e2,hi2⟩|⟨e2,hn2⟩
    ·rw [e2];exact ps_oc hi hi2 fun hb=>⟨hsm hb,hYF hb⟩
    ·rw [e2];exact .inr ⟨ziR _ _,hn2⟩
   ·rw [e,ze2,zlk,ziR];exact .inr ⟨rfl,hn⟩
  ·rw [h2 hk',if_neg hk'];exact ih
theorem finS_oc {B:Prop}(H:Nums m cs N E b DN DE Df)(hB:Bd B m cs DN DE Df):Oc B (finT stS plS m [48] [49] cs).2 (Is (finT stS plS m [48] [49] cs).1 (sfin m.tags.length (wN N E) b cs.length) (YY DN DE cs.length*Df)):=by
 unfold finT;rcases zxo H hB cs.length (Nat.le_refl _)with⟨e,hi⟩|⟨e,hn⟩
 ·rw [e];have:=zqo H hB hi (m.tags.length+1) (Nat.le_refl _);rw [zpY]at this;exact this
 ·exact .inr ⟨by rw [e];exact zhB _ _,hn⟩
def totL(m:Mdl)(cs:List Nat)(ls:List (List Nat)):Nat→Str×Int
 |0=>([48],0)
 |k+1=>if (totL m cs ls k).2≠0 then totL m cs ls k else if (prob m cs (ls.getD k [])).2≠0 then([],(prob m cs (ls.getD k [])).2)else padd (totL m cs ls k).1 (prob m cs (ls.getD k [])).1
theorem zuD {B:Prop}(H:Nums m cs N E b DN DE Df)(hB:Bd B m cs DN DE Df):∀ k,k≤(LL m.tags.length cs.length).length→
 Oc B (totL m cs (LL m.tags.length cs.length) k).2 (Is (totL m cs (LL m.tags.length cs.length) k).1 ((((LL m.tags.length cs.length).take k).map fun L=>wt m.tags.length (wN N E) b L cs.length).sum) (YY DN DE cs.length*Df))
 |0,_=>.inl ⟨rfl,zou (Nat.mul_pos (znp H _) H.pf)⟩
 |k+1,hk=>by
  have ih:=zuD H hB k (by omega);have hm:(LL m.tags.length cs.length).getD k []∈LL m.tags.length cs.length:=by rw [List.getD_eq_getElem?_getD,List.getElem?_eq_getElem (by omega)];exact List.getElem_mem _
  have ht:(LL m.tags.length cs.length).take (k+1)=(LL m.tags.length cs.length).take k++[(LL m.tags.length cs.length).getD k []]:=by rw [List.take_add_one,List.getD_eq_getElem?_getD,List.getElem?_eq_getElem (by omega)];rfl
  have hall:sfin m.tags.length (wN N E) b cs.length=(((LL m.tags.length cs.length).take (k+1)).map fun L=>wt m.tags.length (wN N E) b L cs.length).sum+(((LL m.tags.length cs.length).drop (k+1)).map fun L=>wt m.tags.length (wN N E) b L cs.length).sum:=by rw [zpQ,zb7,Nat.zero_add, ←List.sum_append, ←List.map_append,List.take_append_drop]
  have hp:=prob_oc H (fun hb=>YF_lt (hB hb).2.2) hm;rw [ht,List.map_append,List.sum_append]at hall;rw [totL,ht,List.map_append,List.sum_append];generalize (LL m.tags.length cs.length).getD k []=L at hm hp hall ⊢;simp only [List.map_cons,List.map_nil,List.sum_cons,List.sum_nil,Nat.add_zero]at hall ⊢;rcases ih with⟨e,hi⟩|⟨e,hn⟩
  ·rw [if_neg (by simp [e])];rcases hp with⟨e2,hi2⟩|⟨e2,hn⟩
   ·rw [if_neg (by simp [e2])];rcases zvU hi hi2 with⟨e3,hi3⟩|⟨e3,hn⟩
    ·exact .inl ⟨e3,hi3⟩
    ·refine .inr ⟨e3,fun hb=>hn ⟨?_,YF_lt (hB hb).2.2⟩⟩;obtain⟨b1,b2,b3⟩:=hB hb;have:=zvc H b1 b2 b3;omega
   ·rw [if_pos (by simp [e2])];exact .inr ⟨e2,hn⟩
  ·rw [if_pos (by simp [e])];exact .inr ⟨e,hn⟩
def totF(m:Mdl)(cs:List Nat):Str×Int:=totL m cs (LL m.tags.length cs.length) (LL m.tags.length cs.length).length
theorem totF_oc {B:Prop}(H:Nums m cs N E b DN DE Df)(hB:Bd B m cs DN DE Df):Oc B (totF m cs).2 (Is (totF m cs).1 (sfin m.tags.length (wN N E) b cs.length) (YY DN DE cs.length*Df)):=by have h:=zuD H hB _ (Nat.le_refl _);rw [List.take_length]at h;rw [zpQ,zb7,Nat.zero_add];exact h
end
end Go.Proofs
