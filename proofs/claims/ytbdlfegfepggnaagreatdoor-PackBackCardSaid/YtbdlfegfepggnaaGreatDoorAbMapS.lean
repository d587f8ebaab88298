/- Rules for maps whose keys are strings and whose values are integers; for storing under a key that is a pair of strings. -/
import Derived.Test.YtbdlfegfepggnaaGreatDoorQRep
set_option linter.all false
set_option maxHeartbeats 16000000
set_option maxRecDepth 100000
noncomputable section
namespace Go.Ab
open Go.Cnt
variable {P:Program}{C:Cfg}{env:Env}{H:Hp}
def zmZ:=@zaq
def muK(fl:Bool)(o:Option Blk)(b:Nat)(x y:Str)(v:V)(H:Hp)(orig:Option XR):Option XR:=
 match fl,o with
 |true,some (.mp es clock)=>(match zes (.agg [.str x,.str y]) es 0 with
  |some (some p)=>some ⟨undefV,H.put b (.mp (updE p.1 (.agg [.str x,.str y]) v es) clock),[b],[b]⟩
  |some none=>some ⟨undefV,H.put b (.mp (es++[(clock,.agg [.str x,.str y],v)]) (clock+1)),[b],[b]⟩
  |none=>orig)
 |_,_=>orig
def zgC(t:TypeId)(x k v:Operand):step1 C P env (.mapUpdate t x k v) H=mkSR false ((ev env x).cond∧(ev env k).cond∧(ev env v).cond) (XR.ar H (zaq P t (ev env x).val (ev env k).val (ev env v).val H)) H:=zZ rfl (by simp[Op.operands,needs]) rfl
abbrev Ens:=List (Str×Int)
def valS:Ens→Str→Int
 |[],_=>0
 |e::l,k=>if e.1=k then e.2 else valS l k
def hasS:Ens→Str→Bool
 |[],_=>false
 |e::l,k=>if e.1=k then true else hasS l k
def posS:Ens→Str→Nat
 |[],_=>0
 |e::l,k=>if e.1=k then 0 else posS l k+1
def stoS:Ens→Str→Int→Ens
 |[],k,n=>[(k,n)]
 |e::l,k,n=>if e.1=k then(e.1,n)::l else e::stoS l k n
def zo8:∀ {l:Ens} {k:Str},hasS l k=false→valS l k=0
 |[],_,_=>rfl
 |e::l,k,h=>by
  rw[hasS]at h;by_cases hk:e.1=k
  ·rw[Yi hk]at h;cases h
  rw[Ye hk]at h;rw[valS,Ye hk,zo8 h]
def zjh(k:Str)(n:Int):∀l:Ens,hasS l k=false→stoS l k n=l++[(k,n)]
 |[],_=>rfl
 |e::l,h=>by
  rw[hasS]at h;by_cases hk:e.1=k
  ·rw[Yi hk]at h;cases h
  rw[Ye hk]at h;rw[stoS,Ye hk,zjh k n l h];rfl
def zdy(k:Str)(n:Int):∀l:Ens,hasS l k=true→(stoS l k n).length=l.length
 |[],h=>by cases h
 |e::l,h=>by
  rw[hasS]at h;by_cases hk:e.1=k
  ·rw[stoS,Yi hk];rfl
  rw[Ye hk]at h;rw[stoS,Ye hk,Yv,zdy k n l h];rfl
def zjc:∀(l:Ens)(k j:Str)(n:Int),valS (stoS l k n) j=if k=j then n else valS l j
 |[],k,j,n=>by simp[stoS,valS]
 |e::l,k,j,n=>by
  rw[stoS];by_cases hk:e.1=k
  ·rw[Yi hk,valS,valS];by_cases hj:k=j
   ·rw[Yi hj,Yi (hk.trans hj)]
   rw[Ye hj,Ye (fun h=>hj (hk.symm.trans h)),Ye (fun h=>hj (hk.symm.trans h))]
  rw[Ye hk,valS,valS,zjc l k j n];by_cases hj:k=j
  ·subst hj;simp[hk]
  simp[hj]
def mpS:Nat→Ens→List (Nat×V×V)
 |_,[]=>[]
 |i,e::l=>(i,.str e.1,.int .i64 e.2)::mpS (i+1) l
def zvM:∀(i:Nat)(l:Ens),(mpS i l).length=l.length
 |_,[]=>rfl
 |i,e::l=>by rw[mpS,Yv,zvM];rfl
def ziA:∀(i:Nat)(l r:Ens),mpS i (l++r)=mpS i l++mpS (i+l.length) r
 |_,[],_=>rfl
 |i,e::l,r=>by rw[Ya2,mpS,ziA,mpS,Yv,show i+(l.length+1)=i+1+l.length by omega];rfl
def keyEq_s(a c:Str):zvY (.str a) (.str c)=some (decide (c=a)):=by
 show some (a==c)=_;by_cases h:a=c
 ·subst h;simp
 have h':¬c=a:=fun e=>h e.symm;have e:(a==c)=false:=by simp[h]
 rw[e];simp[h']
def zhv(a:Str):∀(i:Nat)(l:Ens)(j:Nat),zes (.str a) (mpS i l) j=some (match hasS l a with|true=>some (j+posS l a,.int .i64 (valS l a))|false=>none)
 |i,[],j=>rfl
 |i,e::l,j=>by
  rw[mpS,zes,keyEq_s,hasS,posS,valS];by_cases h:e.1=a
  ·rw[Yi h,Yi h,Yi h,Yf h];rfl
  rw[Ye h,Ye h,Ye h,Yd h];show zes _ _ _=_;rw[zhv a (i+1) l (j+1),show j+1+posS l a=j+(posS l a+1)by omega]
def zrL(P:Program)(t:TypeId):Bool:=
 match mapT P t with
 |some (kt,et)=>keyT P kt (.str [])&&(match zaw P et with|some (.int .i64 0)=>true|_=>false)
 |none=>false
def zpG {t:TypeId}(h:zrL P t=true)(a:Str):∃kt et,mapT P t=some (kt,et)∧keyT P kt (.str a)=true∧zaw P et=some (.int .i64 0):=by
 unfold zrL at h;split at h
 ·rename_i kt et hm;simp only[Yj]at h;refine⟨kt,et,hm,?_,?_⟩
  ·have:=h.1;unfold keyT zdJ at this ⊢;simp only at this ⊢;split at this
   ·rename_i h2;simp_all
   ·rename_i h2;simp_all
   ·simp_all
   cases this
  have:=h.2;split at this
  ·assumption
  cases this
 cases h
def luS(fl:Bool)(o:Option Blk)(b:Nat)(x:Str)(H:Hp)(orig:Option XR):Option XR:=
 match fl,o with
 |true,some (.mp es _)=>(match zes (.str x) es 0 with|some (some p)=>some ⟨p.2,H,[b],[]⟩|some none=>some ⟨.int .i64 0,H,[b],[]⟩|none=>orig)
 |_,_=>orig
def zrk(t:TypeId)(b:Nat)(x:Str)(bs:ZH)(n:Nat):zbu P t (.map b) (.str x) false ⟨bs,n⟩=luS (zrL P t) (zG bs b) b x ⟨bs,n⟩ (xLookup0 P t (.map b) (.str x) false ⟨bs,n⟩):=by
 unfold luS;split
 ·rename_i es c hf ho;obtain⟨kt,et,h1,h2,h3⟩:=zpG hf x;have hg:(⟨bs,n⟩:Hp).get b=some (.mp es c):=(zC bs b).trans ho;split
  ·rename_i p hp;unfold zbu;simp only[h1,h2,h3,hg,hp];rfl
  ·rename_i hp;unfold zbu;simp only[h1,h2,h3,hg,hp];rfl
  rfl
 rfl
def luS_mp(l:Ens)(c b:Nat)(x:Str)(orig:Option XR):luS true (some (.mp (mpS 0 l) c)) b x H orig=some ⟨.int .i64 (valS l x),H,[b],[]⟩:=by
 unfold luS;simp only[zhv];cases h:hasS l x with
 |true=>simp
 |false=>simp[zo8 h]
def zo9(k:Str)(n:Int):∀(i:Nat)(l:Ens),hasS l k=true→updE (posS l k) (.str k) (.int .i64 n) (mpS i l)=mpS i (stoS l k n)
 |i,[],h=>by cases h
 |i,e::l,h=>by
  rw[hasS]at h;rw[mpS,posS,stoS];by_cases hk:e.1=k
  ·rw[Yi hk,Yi hk,updE,mpS,hk]
  rw[Ye hk]at h;rw[Ye hk,Ye hk,updE,mpS,zo9 k n (i+1) l h]
def muS(fl:Bool)(o:Option Blk)(b:Nat)(x:Str)(v:V)(H:Hp)(orig:Option XR):Option XR:=
 match fl,o with
 |true,some (.mp es clock)=>(match zes (.str x) es 0 with
  |some (some p)=>some ⟨undefV,H.put b (.mp (updE p.1 (.str x) v es) clock),[b],[b]⟩
  |some none=>some ⟨undefV,H.put b (.mp (es++[(clock,.str x,v)]) (clock+1)),[b],[b]⟩
  |none=>orig)
 |_,_=>orig
def zjB(t:TypeId)(b:Nat)(x:Str)(v:V)(bs:ZH)(n:Nat):zaq P t (.map b) (.str x) v ⟨bs,n⟩=muS (zrL P t) (zG bs b) b x v ⟨bs,n⟩ (zmZ P t (.map b) (.str x) v ⟨bs,n⟩):=by
 unfold muS;split
 ·rename_i es c hf ho;obtain⟨kt,et,h1,h2,h3⟩:=zpG hf x;have hg:(⟨bs,n⟩:Hp).get b=some (.mp es c):=(zC bs b).trans ho;split
  ·rename_i p hp;unfold zaq;simp only[h1,h2,hg,hp]
  ·rename_i hp;unfold zaq;simp only[h1,h2,hg,hp]
  rfl
 rfl
def muS_mp(l:Ens)(b:Nat)(x:Str)(n:Int)(orig:Option XR):muS true (some (.mp (mpS 0 l) l.length)) b x (.int .i64 n) H orig=some ⟨undefV,H.put b (.mp (mpS 0 (stoS l x n)) (stoS l x n).length),[b],[b]⟩:=by
 unfold muS;simp only[zhv];cases h:hasS l x with
 |true=>simp only[Yae];rw[zo9 x n 0 l h,zdy x n l h]
 |false=>rw[zjh x n l h,ziA];simp[mpS]
attribute [go_sem] zgC zrk luS_mp zjB muS_mp zvM
end Go.Ab

namespace Go.Proofs
open Go.Ab Go.Cnt
def all_t {p:Ent→Bool}:∀ {l:List Ent},(∀i,i<l.length→p (nthE l i)=true)→l.all p=true
 |[],_=>rfl
 |e::l,h=>by rw[Ybg,all_t (l:=l) fun i hi=>h (i+1) (by simpa using hi)];have:=h 0 Zs;simpa[nthE]using this
def nthE_mem {l:List Ent}{i:Nat}(h:i<l.length):nthE l i∈l:=by unfold nthE;rw[Ya,Yb h];exact Y1 h
def all_f {p:Ent→Bool}{l:List Ent}{i:Nat}(hi:i<l.length)(h:p (nthE l i)=false):l.all p=false:=by
 cases e:l.all p with
 |false=>rfl
 |true=>rw[Yl.1 e _ (nthE_mem hi)]at h;cases h
end Go.Proofs

namespace Go.Cnt
def insS:List Str→Str→List Str
 |[],s=>[s]
 |x::l,s=>if Op.bytesLess x s=true then x::insS l s else if x=s then x::l else s::x::l
def IncS(l:List Str):Prop:=l.Pairwise fun a b=>Op.bytesLess a b=true
def mem_insS:∀ {l:List Str} {s y:Str},y∈insS l s↔y=s∨y∈l
 |[],s,y=>by simp[insS]
 |x::l,s,y=>by
  rw[insS];split
  ·rw[Yy,mem_insS (l:=l),Yy];constructor
   ·rintro(h|h|h)
    ·exact .inr (.inl h)
    ·exact .inl h
    exact .inr (.inr h)
   rintro(h|h|h)
   ·exact .inr (.inl h)
   ·exact .inl h
   exact .inr (.inr h)
  split
  ·rename_i h;subst h;constructor
   ·exact .inr
   rintro(rfl|h)
   ·exact YK ..
   exact h
  rw[Yy]
def zpU:∀ {l:List Str} (_:IncS l) (s:Str),IncS (insS l s)
 |[],_,s=>by simp[insS,IncS]
 |x::l,h,s=>by
  have h':=List.pairwise_cons.1 h;rw[insS];split
  ·rename_i hx;refine List.pairwise_cons.2 ⟨fun y hy=>?_,zpU h'.2 s⟩;rcases mem_insS.1 hy with rfl|hy
   ·exact hx
   exact h'.1 y hy
  rename_i hx;split
  ·exact h
  rename_i hne;have hs:Op.bytesLess s x=true:=by
   rcases zmE x s with k|k|k
   ·exact absurd k hx
   ·exact absurd k hne
   exact k
  refine List.pairwise_cons.2 ⟨fun y hy=>?_,h⟩;rcases Yy.1 hy with rfl|hy
  ·exact hs
  exact zfb hs (h'.1 y hy)
def zqq {a b:Str}(h:Op.bytesLess a b=true):Op.bytesLess b a=false:=by
 cases e:Op.bytesLess b a with
 |false=>rfl
 |true=>have:=zfb h e;rw[zcV]at this;cases this
def IncS.ext:∀ {l r:List Str},IncS l→IncS r→(∀y,y∈l↔y∈r)→l=r
 |[],[],_,_,_=>rfl
 |[],b::r,_,_,h=>absurd ((h b).2 (YK ..)) Zs
 |a::l,[],_,_,h=>absurd ((h a).1 (YK ..)) Zs
 |a::l,b::r,hl,hr,h=>by
  have hl':=List.pairwise_cons.1 hl;have hr':=List.pairwise_cons.1 hr;have hab:a=b:=by
   rcases Yy.1 ((h a).1 (YK ..))with k|k
   ·exact k
   rcases Yy.1 ((h b).2 (YK ..))with m|m
   ·exact m.symm
   have:=zqq (hr'.1 a k);rw[hl'.1 b m]at this;cases this
  subst hab;have:l=r:=IncS.ext hl'.2 hr'.2 fun y=>by
   have hy:=h y;rw[Yy,Yy]at hy;constructor
   ·intro k;rcases hy.1 (.inr k)with rfl|m
    ·have:=hl'.1 y k;rw[zcV]at this;cases this
    exact m
   intro k;rcases hy.2 (.inr k)with rfl|m
   ·have:=hr'.1 y k;rw[zcV]at this;cases this
   exact m
  rw[this]
end Go.Cnt

namespace Go.Proofs
open Go.Ab Go.Cnt
def zwl {l:List Str}{i:Nat}(h:i<l.length):l.getD i []∈l:=by rw[Ya,Yb h];exact Y1 h
section
variable {C:Cfg}{P:Program}{K:Out→St→Prop}{st:List Fr}{ops:Array Oper}{os:List Oper}{env:Env}{h:Hp}
def zyk(d:Tmp):AXg1 C P K st ops os (some d) (some false) .bad env h=AXr C P K st ops os ((d,undefV)::env) h:=zqx d .bad
def zyh(i:Nat)(d:Tmp)(acc:List (Nat×Foot)):AXg2 C P K st ops os i (some d) (some false) .bad acc env h=AXd C P K st ops os (i+1) acc ((d,undefV)::env) h:=by show (false=false∧_)=_;simp only[Yag];rfl
theorem zop(nd:Prop):callM none nd h=.bad:=rfl
theorem zrr:zdB .any=[]:=rfl
end
attribute [go_sem] zyk zyh zop zrr
end Go.Proofs

namespace Go.Proofs
open Tryz Go.Ab Go.Pl Go.Cnt
def cSplit:ZV:=zL (fun s:ZL=>[.str s]) (fun s=>s.length≤1000000000) fun s=>.ret (.tup [.any,.any,.int .i64 (zdz s)])
def zxm(s:ZL)(h:s.length≤1000000000):cSplit [.str s]=some (.ret (.tup [.any,.any,.int .i64 (zdz s)])):=zo (pat:=fun s:ZL=>[V.str s]) (fun x y h=>by simpa using h) s h
def zxl:ZC cSplit 79:=zn fun s h=>split_ok s h
def symN(s:ZL):Bool:= !decide (s=[])&&decide (s.length≤40)&&decide (zdz s=0)
def zq0(s:ZL)(h:s.length≤1000000000):PCall prog 57 [.str s] (.ret (.bool (symN s))):=by
 refine Xa (rs:=[.tmp 2]) [0,2,5,12] [] mixed (zf zxl zh) (zg) call57 func57 rfl ntmps57 rfl ?_;unfold symN;by_cases h1:s=[]
 ·have d1:decide (s=[])=true:=Yf h1;rw[d1];simp(disch:=try exact Zq)only[go_sem,d1]
 have d1:decide (s=[])=false:=Yd h1;rw[d1];by_cases h2:s.length≤40
 ·have d2:decide (40<(s.length:Int))=false:=Yd Zo;rw[Yf h2];simp(disch:=try exact Zq)only[go_sem,d1,d2,zxm]
 have d2:decide (40<(s.length:Int))=true:=Yf Zo;rw[Yd h2];simp(disch:=try exact Zq)only[go_sem,d1,d2]
def cSymN:ZV:=zL (fun s:ZL=>[.str s]) (fun s=>s.length≤1000000000) fun s=>.ret (.bool (symN s))
def zqf(s:ZL)(h:s.length≤1000000000):cSymN [.str s]=some (.ret (.bool (symN s))):=zo (pat:=fun s:ZL=>[V.str s]) (fun x y h=>by simpa using h) s h
def zku:ZC cSymN 57:=zn fun s h=>zq0 s h
def zyB {p:ZL→Bool}{l:List ZL}(h:∀j,j<l.length→p (l.getD j [])=true):l.all p=true:=by rw[Yl];intro x hx;obtain⟨j,hj,rfl⟩:=YaB.1 hx;have:=h j hj;simpa[hj]using this
def zyC {p:ZL→Bool}{l:List ZL}{i:Nat}(hi:i<l.length)(h:p (l.getD i [])=false):l.all p=false:=by
 rw[List.all_eq_false];refine⟨l[i],Y1 hi,?_⟩;have:l.getD i []=l[i]:=by simp[hi]
 rw[this]at h;simp[h]
def allYN_ok(l:List ZL)(hl:l.length≤1000000000)(hs:∀j,(l.getD j []).length≤1000000000):PCall prog 56 [.fs (strs l) l.length,.fn 57 []] (.ret (.bool (l.all symN))):=by
 refine Xa (rs:=[.tmp 4]) [0,1,4,6,7,8,9,10,16] [] mixed (zf zku zh) (zg) call56 func56 rfl ntmps56 rfl ?_;simp(disch:=try exact Zq)only[go_sem];refine AXs.loop mixed (zf zku zh) (zg) (ι:=Nat) (fun i=>[(9,.int .i64 i),(8,.int .i64 l.length),(7,.fs (strs l) l.length),(1,.fn 57 [])]) (fun _=>⟨[],0⟩) (fun i=>i≤l.length∧∀j,j<i→symN (l.getD j [])=true) (fun i=>l.length-i) 0 Zk ⟨Yk _,fun j hj=>Zo⟩ (Xb [] rfl rfl ?_ ?_) ?_
 ·simp only[go_sem]
 ·simp only[go_sem]
 rintro i ⟨h1,h2⟩;simp(disch:=try exact Zq)only[go_sem];refine Xc (fun hc=>?_) (fun hc=>?_)
 ·have hi:i<l.length:=Zo;have hsi:=hs i;have ei:(i:Int)+1=((i+1:Nat):Int):=Zo;cases hn:symN (l.getD i [])with
  |true=>
   simp(disch:=try exact Zq)only[go_sem,zqf,hn,ei];refine⟨Zo,Zo,zi (i+1) ⟨hi,fun j hj=>?_⟩ Zo (Xb [] rfl rfl Zg Zg)⟩;rcases YaJ j i with h|h
   ·exact h2 j h
   rw[show j=i by omega];exact hn
  |false=>have:=zyC hi hn;simp(disch:=try exact Zq)only[go_sem,zqf,hn,this];exact⟨Zo,Zo⟩
 obtain rfl:i=l.length:=Zo;have:=zyB h2;simp(disch:=try exact Zq)only[go_sem];refine AXa.go mixed (zf zku zh) (zg) Zk ?_;simp(disch:=try exact Zq)only[go_sem,this]
def cAllYN:ZV:=zL (fun l:List ZL=>[.fs (strs l) l.length,.fn 57 []]) (fun l=>l.length≤1000000000∧∀j,(l.getD j []).length≤1000000000) fun l=>.ret (.bool (l.all symN))
def zhF(l:List ZL)(hl:l.length≤1000000000)(hs:∀j,(l.getD j []).length≤1000000000):cAllYN [.fs (strs l) l.length,.fn 57 []]=some (.ret (.bool (l.all symN))):=
 zo (pat:=fun l:List ZL=>[V.fs (strs l) l.length,.fn 57 []]) (fun x y h=>by simp at h;exact zbv h.1) l ⟨hl,hs⟩
def zxW:ZC cAllYN 56:=zn fun l h=>allYN_ok l h.1 h.2
def mapS1_t:zrL prog 50=true:=Zk
attribute [local go_sem] mapS1_t
def symT(l:List ZL)(i:Nat):Ens:=((l.take i).zipIdx 1).foldl (fun m p=>stoS m p.1 (p.2:Nat)) []
def zgA(l:List ZL)(i:Nat)(h:i<l.length):symT l (i+1)=stoS (symT l i) (l.getD i []) ((i+1:Nat):Int):=by
 unfold symT;rw[YaW,Yb h,List.zipIdx_append,List.foldl_append];have:(l.take i).length=i:=by simp;omega
 rw[this];simp[h,Nat.add_comm]
def makeR(x:Int)(H:Hp):zbj prog 50 (.int .i64 x) H=some ⟨.map H.next,H.new (.mp (mpS 0 []) 0),[],[]⟩:=by have h:mapT prog 50=some (9,3):=Zk;unfold zbj;rw[h];rfl
def zgP {π:Nat→Nat}{N:Nat→Prop}(l:Ens)(c:Nat):RnB π N (.mp (mpS 0 l) c) (.mp (mpS 0 l) c)↔True:=by
 refine⟨fun _=>trivial,fun _=>?_⟩;have hpu:∀(i:Nat)(l:Ens),(∀x∈(mpS i l).map (·.2.1),Ab.Pure x)∧∀x∈(mpS i l).map (·.2.2),Ab.Pure x:=by
  intro i l;induction l generalizing i with
  |nil=>exact⟨fun x h=>(nomatch h),fun x h=>(nomatch h)⟩
  |cons e l ih=>
   refine⟨fun x h=>?_,fun x h=>?_⟩
   ·rw[mpS,Y7]at h;rcases Yy.1 h with rfl|h
    ·exact .str _
    exact(ih (i+1)).1 x h
   rw[mpS,Y7]at h;rcases Yy.1 h with rfl|h
   ·exact .int _ _
   exact(ih (i+1)).2 x h
 exact .mp rfl (zB (hpu 0 l).1) (zB (hpu 0 l).2)
attribute [local go_sem] zgP
def zu7(l:List ZL)(hl:l.length≤1000000000):NCall prog 58 [.fs (strs l) l.length] [] [] (.map 0) ⟨[(0,.mp (mpS 0 (symT l l.length)) (symT l l.length).length)],1⟩:=by
 refine NCall.walk (rs:=[.tmp 2]) [0,2,3,4,5,9,10,11,12] [] 0 mixed (zh) (zg) call58 func58 rfl ntmps58 rfl Zk Zs Zs Zs ?_;simp(disch:=try exact Zq)only[go_sem,makeR];refine AXs.loop mixed (zh) (zg) (ι:=Nat) (fun i=>[(11,.int .i64 i),(10,.int .i64 l.length),(9,.fs (strs l) l.length),(3,.map 0)]) (fun i=>⟨[(0,.mp (mpS 0 (symT l i)) (symT l i).length)],1⟩) (fun i=>i≤l.length) (fun i=>l.length-i) 0 Zk (Yk _) (Sub.of [] rfl ?_ ?_ Zd (fun b hb hw=>absurd hb (Ya0 b))) ?_
 ·simp only[go_sem]
 ·show subH _ _ _ [(0,.mp (mpS 0 []) 0)];simp only[go_sem]
 intro i h1;simp(disch:=try exact Zq)only[go_sem];refine Xc (fun hc=>?_) (fun hc=>?_)
 ·have hi:i<l.length:=Zo;have ei:(i:Int)+1=((i+1:Nat):Int):=Zo;have hsu:=zgA l i hi;simp(disch:=try exact Zq)only[go_sem,ei];refine⟨Zo,Zo,zi (i+1) hi Zo (Sub.of [] rfl ?_ ?_ Zd (fun b hb hw=>absurd hb (Ya0 b)))⟩
  ·simp only[go_sem]
  rw[hsu];simp only[go_sem]
 obtain rfl:i=l.length:=Zo;simp(disch:=try exact Zq)only[go_sem];refine AXa.go mixed (zh) (zg) Zk ?_;simp(disch:=try exact Zq)only[go_sem];exact⟨[(2,.map 0)],Sub.of [] rfl Zg Zg Zd (fun b hb hw=>absurd hb (Ya0 b)),rfl⟩
def SymR(args:ZA)(H:Hp)(r:AR):Prop:=∃l:List ZL,args=[.fs (strs l) l.length]∧l.length≤1000000000∧(∀b x,H.get b=some x→b<H.next)∧r=⟨True,.map H.next,H.new (.mp (mpS 0 (symT l l.length)) (symT l l.length).length),[],[]⟩
def symR_ok:∀args H r,SymR args H r→HCall prog 58 args H r:=by
 rintro args H r ⟨l,rfl,hl,hk,rfl⟩;have tn:zu [] H.next H.next=0:=by unfold zu;rw[Ye Zo];simp
 refine HCall.of (zu7 l hl) [] _ (.map H.next) H (H.new _) rfl Zs (zB fun x hx=>?_) (fun i x hx=>by simp at hx) ?_ (by show H.next+1+0=H.next+1;omega) (fun b' x' hx'=>?_) (fun b' hb' hw=>?_)
 ·rw[YB.1 hx];exact .fs (zaP l)
 ·have:=Rn.map (π:=zu [] H.next) (N:=fun b=>b∈[]∨(H.next≤b∧b<(H.new (.mp (mpS 0 (symT l l.length)) (symT l l.length).length)).next)) (b:=H.next) (.inr ⟨Yc _,YD _⟩);rwa [tn]at this
 ·rw[Xe]at hx';split at hx'
  ·rename_i he;subst he;cases hx';refine .inr ⟨.inr ⟨Yc _,YD _⟩,.mp (mpS 0 (symT l l.length)) (symT l l.length).length,?_,(zgP _ _).2 trivial⟩;rw[tn];rfl
  exact .inl ⟨hk b' _ hx',Zs,hx'⟩
 rw[Xe,Ye Zo]
def zm6(l:List ZL)(bs:ZH)(nx:Nat)(hl:l.length≤1000000000)(hk:((keysB bs).all fun b=>decide (b<nx))=true):conD SymR [.fs (strs l) l.length] ⟨bs,nx⟩=some ⟨True,.map nx,⟨(nx,.mp (mpS 0 (symT l l.length)) (symT l l.length).length)::bs,nx+1⟩,[],[]⟩:=by
 have hR:SymR [.fs (strs l) l.length] ⟨bs,nx⟩ ⟨True,.map nx,⟨(nx,.mp (mpS 0 (symT l l.length)) (symT l l.length).length)::bs,nx+1⟩,[],[]⟩:=⟨l,rfl,hl,zaZ hk,rfl⟩;refine zan hR ?_;rintro r' ⟨l',e,_,_,rfl⟩;have:strs l=strs l':=by simp at e;exact e.1
 rw[zbv this];rfl
def zpW:∀(l:Ens)(k:Str)(n:Int)(j:Str),hasS (stoS l k n) j=(decide (k=j)||hasS l j)
 |[],k,n,j=>by simp[stoS,hasS]
 |e::l,k,n,j=>by
  have ih:=zpW l k n j;unfold stoS;by_cases h:e.1=k
  ·rw[Yi h];simp only[hasS];by_cases hj:k=j
   ·simp[h,hj]
   simp[h,hj]
  rw[Ye h];simp only[hasS,ih];by_cases hj:k=j
  ·simp[hj]
  by_cases he:e.1=j<;>simp[hj,he]
def zpj(l:List ZL)(j:ZL):∀i,i≤l.length→hasS (symT l i) j=decide (j∈l.take i)
 |0,_=>by simp[symT,hasS]
 |i+1,h=>by
  have ih:=zpj l j i Zo;rw[zgA l i Zo,zpW,ih,YaW,Yb (show i<l.length by omega)];have:l.getD i []=l[i]:=by simp[show i<l.length by omega]
  rw[this];by_cases h1:l[i]=j
  ·simp[h1]
  have h2:¬j=l[i]:=fun e=>h1 e.symm;rw[Yd h1,YaT];have e:(j∈l.take i++[l[i]])=(j∈l.take i):=by rw[Yam,YB];exact propext ⟨fun h=>h.resolve_right h2,.inl⟩
  exact(Ybh.2 (by rw[Option.toList_some,e])).symm
def zpi(l:List ZL):∀i,i≤l.length→(symT l i).length≤i∧((symT l i).length=i↔(l.take i).Nodup)
 |0,_=>by simp[symT]
 |i+1,h=>by
  obtain⟨h1,h2⟩:=zpi l i Zo;have hh:=zpj l (l.getD i []) i Zo;have hg:l.getD i []=l[i]:=by simp[show i<l.length by omega]
  have ht:l.take (i+1)=l.take i++[l[i]]:=by rw[YaW,Yb (show i<l.length by omega)];rfl
  rw[zgA l i Zo,ht,List.nodup_append];rw[hg]at hh ⊢;cases hc:hasS (symT l i) l[i]with
  |true=>
   rw[hc]at hh;have hm:l[i]∈l.take i:=by simpa using hh.symm
   rw[zdy _ _ _ hc];refine⟨Zo,⟨fun e=>Zo,fun⟨_,_,h3⟩=>absurd rfl (h3 _ hm _ Zs)⟩⟩
  |false=>
   rw[hc]at hh;have hm:¬l[i]∈l.take i:=by simpa using hh.symm
   rw[zjh _ _ _ hc,Yg,YQ];refine⟨Zo,⟨fun e=>⟨h2.1 Zo,Zs,fun a ha b hb=>?_⟩,fun⟨h3,_,_⟩=>by rw[h2.2 h3]⟩⟩;rw[YB.1 hb];rintro rfl;exact hm ha
def znN:mapSS prog 50=false:=Zk
theorem lmK_f(o:Option Blk)(b:Nat)(H:Hp)(orig:AR):lmK false o b H orig=orig:=rfl
def zoO(b:Nat)(es:List (Nat×V×V))(c:Nat)(bs:ZH)(n:Nat)(hb:zG bs b=some (.mp es c)):aLenM prog 50 (.map b) ⟨bs,n⟩=⟨True,.int .i64 es.length,⟨bs,n⟩,[b],[]⟩:=by have hu:prog.underlying 50=some (.map 9 3):=Zk;have hg:(⟨bs,n⟩:Hp).get b=some (.mp es c):=(zC bs b).trans hb;unfold aLenM aLen;rw[hu];simp only[hg]
def zkM(H:Hp):aLen prog 50 undefV.val H=.bad H:=by have hu:prog.underlying 50=some (.map 9 3):=Zk;unfold aLen;rw[hu];rfl
def tabB(t:List ZL):Bool:=decide (t.length≤500)&&t.all symN&&decide t.Nodup
def ztH(t:List ZL)(hl:t.length≤1000000000)(hs:∀j,(t.getD j []).length≤1000000000):PCall prog 21 [.fs (strs t) t.length] (.ret (.bool (tabB t))):=by
 have hnd:=(zpi t t.length (Yc _)).2;rw[Ym]at hnd;have hd:decide (((symT t t.length).length:Int)=(t.length:Int))=decide t.Nodup:=by
  by_cases h:t.Nodup
  ·rw[Yf h];exact Yf (by have:=hnd.2 h;omega)
  rw[Yd h];exact Yd (fun e=>h (hnd.1 Zo))
 unfold tabB;refine Xa (rs:=[.tmp 2]) [0,2] [] mixed (zf zxW zh) (zK (zT symR_ok) zg) call21 func21 rfl ntmps21 rfl ?_;by_cases h1:t.length≤500
 ·have d1:decide ((t.length:Int)≤500)=true:=Yf Zo;rw[Yf h1];cases h2:t.all symN with
  |true=>simp(disch:=try exact Zp)only[go_sem,d1,zhF,h2,zm6,hd,znN,lmK_f,zoO,zkM]
  |false=>simp(disch:=try exact Zp)only[go_sem,d1,zhF,h2,zm6,hd,znN,lmK_f,zoO,zkM]
 have d1:decide ((t.length:Int)≤500)=false:=Yd Zo;rw[Yd h1];simp(disch:=try exact Zp)only[go_sem,d1,zhF,zm6,hd,znN,lmK_f,zoO,zkM]
def cSymV:ZV:=zL (fun t:List ZL=>[.fs (strs t) t.length]) (fun t=>t.length≤1000000000∧∀j,(t.getD j []).length≤1000000000) fun t=>.ret (.bool (tabB t))
def cSymV_eq(t:List ZL)(hl:t.length≤1000000000)(hs:∀j,(t.getD j []).length≤1000000000):cSymV [.fs (strs t) t.length]=some (.ret (.bool (tabB t))):=
 zo (pat:=fun t:List ZL=>[V.fs (strs t) t.length]) (fun x y h=>by simp at h;exact zbv h.1) t ⟨hl,hs⟩
def cSymV_ok:ZC cSymV 21:=zn fun t h=>ztH t h.1 h.2
end Go.Proofs
