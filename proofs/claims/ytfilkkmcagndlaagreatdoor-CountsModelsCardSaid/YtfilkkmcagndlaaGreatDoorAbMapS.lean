/- Rules for maps whose keys are strings and whose values are integers; for storing under a key that is a pair of strings. -/
import Derived.Test.YtfilkkmcagndlaaGreatDoorAbRules
import Derived.Test.YtfilkkmcagndlaaGreatDoorChecked
import Derived.KernelRfl
set_option linter.all false
namespace Go.Ab
open Go.Cnt
variable {P:Program}{C:Cfg}{env:Env}{H:Hp}
theorem zvx(k:Key)(n:Int):∀(i:Nat) (l:List Ent),has l k=true→updE (pos l k) (.agg [.str k.1,.str k.2]) (.int .i64 n) (mpF i l)=mpF i (sto l k n)
 |i,[],h=>by cases h
 |i,e::l,h=>by
  rw [has]at h;rw [mpF,pos,sto];by_cases hk:e.1=k
  ·rw [if_pos hk,if_pos hk,updE,mpF,hk]
  ·rw [if_neg hk]at h;rw [if_neg hk,if_neg hk,updE,mpF,zvx k n (i+1) l h]
theorem zvQ(k:Key)(n:Int):∀ l:List Ent,has l k=false→sto l k n=l++[(k,n)]
 |[],_=>rfl
 |e::l,h=>by
  rw [has]at h;by_cases hk:e.1=k
  ·rw [if_pos hk]at h;cases h
  ·rw [if_neg hk]at h;rw [sto,if_neg hk,zvQ k n l h];rfl
theorem zhA(k:Key)(n:Int):∀ l:List Ent,has l k=true→(sto l k n).length=l.length
 |[],h=>by cases h
 |e::l,h=>by
  rw [has]at h;by_cases hk:e.1=k
  ·rw [sto,if_pos hk];rfl
  ·rw [if_neg hk]at h;rw [sto,if_neg hk,List.length_cons,zhA k n l h];rfl
def zhp:=@zam
def muK(fl:Bool)(o:Option Blk)(b:Nat)(x y:Str)(v:V)(H:Hp)(orig:Option XR):Option XR:=
 match fl,o with
 |true,some (.mp es clock)=>(match zeb (.agg [.str x,.str y]) es 0 with
  |some (some p)=>some ⟨zar,H.put b (.mp (updE p.1 (.agg [.str x,.str y]) v es) clock),[b],[b]⟩
  |some none=>some ⟨zar,H.put b (.mp (es++[(clock,.agg [.str x,.str y],v)]) (clock+1)),[b],[b]⟩
  |none=>orig)
 |_,_=>orig
theorem zmz(t:TypeId)(b:Nat)(x y:Str)(v:V)(bs:List (Nat×Blk))(n:Nat):zam P t (.map b) (.agg [.str x,.str y]) v ⟨bs,n⟩=muK (zxr P t) (zaM bs b) b x y v ⟨bs,n⟩ (zhp P t (.map b) (.agg [.str x,.str y]) v ⟨bs,n⟩):=by
 unfold muK;split
 ·rename_i es c hf ho;obtain⟨kt,et,h1,h2,h3⟩:=zqY hf x y;have hg:(⟨bs,n⟩:Hp).get b=some (.mp es c):=(zaP bs b).trans ho;split
  ·rename_i p hp;unfold zam;simp only [h1,h2,hg,hp]
  ·rename_i hp;unfold zam;simp only [h1,h2,hg,hp]
  ·rfl
 ·rfl
theorem muK_mp(l:List Ent)(b:Nat)(x y:Str)(n:Int)(orig:Option XR):muK true (some (.mp (mpF 0 l) l.length)) b x y (.int .i64 n) H orig=
 some ⟨zar,H.put b (.mp (mpF 0 (sto l (x,y) n)) (sto l (x,y) n).length),[b],[b]⟩:=by
 unfold muK
 simp only [zlD]
 cases h:has l (x,y)with
 |true=>
  simp only [Nat.zero_add]
  rw [zvx (x,y) n 0 l h,zhA (x,y) n l h]
 |false=>
  rw [zvQ (x,y) n l h,zjH]
  simp [mpF]
theorem zhC(t:TypeId)(x k v:Operand):step1 C P env (.mapUpdate t x k v) H=mkSR false ((ev env x).cond∧(ev env k).cond∧(ev env v).cond) (XR.ar H (zam P t (ev env x).val (ev env k).val (ev env v).val H)) H:=zal rfl (by simp [Op.operands,needs]) rfl
abbrev Ens:=List (Str×Int)
def valS:Ens→Str→Int
 |[],_=>0
 |e::l,k=>if e.1=k then e.2 else valS l k
def hasS:Ens→Str→Bool
 |[],_=>false
 |e::l,k=>if e.1=k then true else hasS l k
def posS:Ens→Str→Nat
 |[],_=>0
 |e::l,k=>if e.1=k then 0 else posS l k+1
def stoS:Ens→Str→Int→Ens
 |[],k,n=>[(k,n)]
 |e::l,k,n=>if e.1=k then(e.1,n)::l else e::stoS l k n
theorem zqn:∀ {l:Ens} {k:Str},hasS l k=false→valS l k=0
 |[],_,_=>rfl
 |e::l,k,h=>by
  rw [hasS]at h;by_cases hk:e.1=k
  ·rw [if_pos hk]at h;cases h
  ·rw [if_neg hk]at h;rw [valS,if_neg hk,zqn h]
theorem zqE(k:Str)(n:Int):∀ l:Ens,hasS l k=false→stoS l k n=l++[(k,n)]
 |[],_=>rfl
 |e::l,h=>by
  rw [hasS]at h;by_cases hk:e.1=k
  ·rw [if_pos hk]at h;cases h
  ·rw [if_neg hk]at h;rw [stoS,if_neg hk,zqE k n l h];rfl
theorem zgD(k:Str)(n:Int):∀ l:Ens,hasS l k=true→(stoS l k n).length=l.length
 |[],h=>by cases h
 |e::l,h=>by
  rw [hasS]at h;by_cases hk:e.1=k
  ·rw [stoS,if_pos hk];rfl
  ·rw [if_neg hk]at h;rw [stoS,if_neg hk,List.length_cons,zgD k n l h];rfl
theorem zqm:∀(l:Ens) (k j:Str) (n:Int),valS (stoS l k n) j=if k=j then n else valS l j
 |[],k,j,n=>by simp [stoS,valS]
 |e::l,k,j,n=>by
  rw [stoS];by_cases hk:e.1=k
  ·rw [if_pos hk,valS,valS];by_cases hj:k=j
   ·rw [if_pos hj,if_pos (hk.trans hj)]
   ·rw [if_neg hj,if_neg (fun h=>hj (hk.symm.trans h)),if_neg (fun h=>hj (hk.symm.trans h))]
  ·rw [if_neg hk,valS,valS,zqm l k j n];by_cases hj:k=j
   ·subst hj;simp [hk]
   ·simp [hj]
def mpS:Nat→Ens→List (Nat×V×V)
 |_,[]=>[]
 |i,e::l=>(i,.str e.1,.int .i64 e.2)::mpS (i+1) l
theorem zxH:∀(i:Nat) (l:Ens),(mpS i l).length=l.length
 |_,[]=>rfl
 |i,e::l=>by rw [mpS,List.length_cons,zxH];rfl
theorem zjG:∀(i:Nat) (l r:Ens),mpS i (l++r)=mpS i l++mpS (i+l.length) r
 |_,[],_=>rfl
 |i,e::l,r=>by rw [List.cons_append,mpS,zjG,mpS,List.length_cons,show i+(l.length+1)=i+1+l.length by omega];rfl
theorem keyEq_s(a c:Str):ztz (.str a) (.str c)=some (decide (c=a)):=by
 show some (a==c)=_;by_cases h:a=c
 ·subst h;simp
 ·have h':¬c=a:=fun e=>h e.symm;have e:(a==c)=false:=by simp [h]
  rw [e];simp [h']
theorem zil(a:Str):∀(i:Nat) (l:Ens) (j:Nat),zeb (.str a) (mpS i l) j=some (match hasS l a with|true=>some (j+posS l a,.int .i64 (valS l a))|false=>none)
 |i,[],j=>rfl
 |i,e::l,j=>by
  rw [mpS,zeb,keyEq_s,hasS,posS,valS];by_cases h:e.1=a
  ·rw [if_pos h,if_pos h,if_pos h,decide_eq_true h];rfl
  ·rw [if_neg h,if_neg h,if_neg h,decide_eq_false h];show zeb _ _ _=_;rw [zil a (i+1) l (j+1),show j+1+posS l a=j+(posS l a+1)by omega]
def mapS1(P:Program)(t:TypeId):Bool:=
 match mapT P t with
 |some (kt,et)=>keyT P kt (.str [])&&(match zaU P et with|some (.int .i64 0)=>true|_=>false)
 |none=>false
theorem zqZ {t:TypeId}(h:mapS1 P t=true)(a:Str):∃ kt et,mapT P t=some (kt,et)∧keyT P kt (.str a)=true∧zaU P et=some (.int .i64 0):=by
 unfold mapS1 at h;split at h
 ·rename_i kt et hm;simp only [Bool.and_eq_true]at h;refine⟨kt,et,hm,?_,?_⟩
  ·have:=h.1;unfold keyT zer at this ⊢;simp only at this ⊢;split at this
   ·rename_i h2;simp_all
   ·rename_i h2;simp_all
   ·simp_all
   ·cases this
  ·have:=h.2;split at this
   ·assumption
   ·cases this
 ·cases h
def luS(fl:Bool)(o:Option Blk)(b:Nat)(x:Str)(H:Hp)(orig:Option XR):Option XR:=
 match fl,o with
 |true,some (.mp es _)=>(match zeb (.str x) es 0 with|some (some p)=>some ⟨p.2,H,[b],[]⟩|some none=>some ⟨.int .i64 0,H,[b],[]⟩|none=>orig)
 |_,_=>orig
theorem zsG(t:TypeId)(b:Nat)(x:Str)(bs:List (Nat×Blk))(n:Nat):zaV P t (.map b) (.str x) false ⟨bs,n⟩=luS (mapS1 P t) (zaM bs b) b x ⟨bs,n⟩ (zqk P t (.map b) (.str x) false ⟨bs,n⟩):=by
 unfold luS;split
 ·rename_i es c hf ho;obtain⟨kt,et,h1,h2,h3⟩:=zqZ hf x;have hg:(⟨bs,n⟩:Hp).get b=some (.mp es c):=(zaP bs b).trans ho;split
  ·rename_i p hp;unfold zaV;simp only [h1,h2,h3,hg,hp];rfl
  ·rename_i hp;unfold zaV;simp only [h1,h2,h3,hg,hp];rfl
  ·rfl
 ·rfl
theorem luS_mp(l:Ens)(c b:Nat)(x:Str)(orig:Option XR):luS true (some (.mp (mpS 0 l) c)) b x H orig=some ⟨.int .i64 (valS l x),H,[b],[]⟩:=by
 unfold luS;simp only [zil];cases h:hasS l x with
 |true=>simp
 |false=>simp [zqn h]
theorem zqp(k:Str)(n:Int):∀(i:Nat) (l:Ens),hasS l k=true→updE (posS l k) (.str k) (.int .i64 n) (mpS i l)=mpS i (stoS l k n)
 |i,[],h=>by cases h
 |i,e::l,h=>by
  rw [hasS]at h;rw [mpS,posS,stoS];by_cases hk:e.1=k
  ·rw [if_pos hk,if_pos hk,updE,mpS,hk]
  ·rw [if_neg hk]at h;rw [if_neg hk,if_neg hk,updE,mpS,zqp k n (i+1) l h]
def muS(fl:Bool)(o:Option Blk)(b:Nat)(x:Str)(v:V)(H:Hp)(orig:Option XR):Option XR:=
 match fl,o with
 |true,some (.mp es clock)=>(match zeb (.str x) es 0 with
  |some (some p)=>some ⟨zar,H.put b (.mp (updE p.1 (.str x) v es) clock),[b],[b]⟩
  |some none=>some ⟨zar,H.put b (.mp (es++[(clock,.str x,v)]) (clock+1)),[b],[b]⟩
  |none=>orig)
 |_,_=>orig
theorem zkI(t:TypeId)(b:Nat)(x:Str)(v:V)(bs:List (Nat×Blk))(n:Nat):zam P t (.map b) (.str x) v ⟨bs,n⟩=muS (mapS1 P t) (zaM bs b) b x v ⟨bs,n⟩ (zhp P t (.map b) (.str x) v ⟨bs,n⟩):=by
 unfold muS;split
 ·rename_i es c hf ho;obtain⟨kt,et,h1,h2,h3⟩:=zqZ hf x;have hg:(⟨bs,n⟩:Hp).get b=some (.mp es c):=(zaP bs b).trans ho;split
  ·rename_i p hp;unfold zam;simp only [h1,h2,hg,hp]
  ·rename_i hp;unfold zam;simp only [h1,h2,hg,hp]
  ·rfl
 ·rfl
theorem muS_mp(l:Ens)(b:Nat)(x:Str)(n:Int)(orig:Option XR):muS true (some (.mp (mpS 0 l) l.length)) b x (.int .i64 n) H orig=
 some ⟨zar,H.put b (.mp (mpS 0 (stoS l x n)) (stoS l x n).length),[b],[b]⟩:=by
 unfold muS
 simp only [zil]
 cases h:hasS l x with
 |true=>
  simp only [Nat.zero_add]
  rw [zqp x n 0 l h,zgD x n l h]
 |false=>
  rw [zqE x n l h,zjG]
  simp [mpS]
attribute [go_sem] zmz muK_mp zhC zsG luS_mp zkI muS_mp zxH
end Go.Ab

namespace Go.Proofs
open Go.Ab
theorem Tryz.agg3:aggT Tryz.prog 3=some false:=by kernel_rfl
theorem Tryz.size3:zN Tryz.prog 3=some 1:=by kernel_rfl
theorem Tryz.agg4:aggT Tryz.prog 4=some false:=by kernel_rfl
theorem Tryz.size4:zN Tryz.prog 4=some 1:=by kernel_rfl
theorem Tryz.agg5:aggT Tryz.prog 5=some false:=by kernel_rfl
theorem Tryz.size5:zN Tryz.prog 5=some 1:=by kernel_rfl
theorem Tryz.agg9:aggT Tryz.prog 9=some false:=by kernel_rfl
theorem Tryz.size9:zN Tryz.prog 9=some 1:=by kernel_rfl
theorem Tryz.zero9:zaU Tryz.prog 9=some (.string ⟨([]:List UInt8).toArray⟩):=by kernel_rfl
theorem Tryz.agg22:aggT Tryz.prog 22=some false:=by kernel_rfl
theorem Tryz.size22:zN Tryz.prog 22=some 1:=by kernel_rfl
theorem Tryz.elem22:zbf Tryz.prog 22=some 3:=by kernel_rfl
theorem Tryz.agg24:aggT Tryz.prog 24=some true:=by kernel_rfl
theorem Tryz.size24:zN Tryz.prog 24=some 2:=by kernel_rfl
theorem Tryz.field24_0:zbu Tryz.prog 24 0=some (0,false,1):=by kernel_rfl
theorem Tryz.field24_1:zbu Tryz.prog 24 1=some (1,false,1):=by kernel_rfl
theorem Tryz.agg25:aggT Tryz.prog 25=some false:=by kernel_rfl
theorem Tryz.size25:zN Tryz.prog 25=some 1:=by kernel_rfl
theorem Tryz.row25:rowE Tryz.prog 25=(false,9):=by kernel_rfl
theorem Tryz.elem25:zbf Tryz.prog 25=some 1:=by kernel_rfl
theorem Tryz.app25:appT Tryz.prog 25=some (1,16,true):=by kernel_rfl
theorem Tryz.bld25:zcl Tryz.prog 25=some (1,(.string ⟨([]:List UInt8).toArray⟩)):=by kernel_rfl
theorem Tryz.agg26:aggT Tryz.prog 26=some false:=by kernel_rfl
theorem Tryz.size26:zN Tryz.prog 26=some 1:=by kernel_rfl
theorem Tryz.row26:rowE Tryz.prog 26=(false,25):=by kernel_rfl
theorem Tryz.elem26:zbf Tryz.prog 26=some 1:=by kernel_rfl
theorem Tryz.app26:appT Tryz.prog 26=some (1,24,true):=by kernel_rfl
theorem Tryz.bld26:zcl Tryz.prog 26=some (1,(.slice none 0 0)):=by kernel_rfl
theorem Tryz.agg28:aggT Tryz.prog 28=some true:=by kernel_rfl
theorem Tryz.size28:zN Tryz.prog 28=some 4:=by kernel_rfl
theorem Tryz.zero28:zaU Tryz.prog 28=some (.agg ([(.slice none 0 0),(.slice none 0 0),(.slice none 0 0),(.slice none 0 0)]:List Value).toArray):=by kernel_rfl
theorem Tryz.self28:zkD Tryz.prog 28=false:=by kernel_rfl
theorem Tryz.places28:zdI Tryz.prog 28=some [(0,1),(1,1),(2,1),(3,1)]:=by kernel_rfl
theorem Tryz.field28_0:zbu Tryz.prog 28 0=some (0,false,1):=by kernel_rfl
theorem Tryz.field28_1:zbu Tryz.prog 28 1=some (1,false,1):=by kernel_rfl
theorem Tryz.field28_2:zbu Tryz.prog 28 2=some (2,false,1):=by kernel_rfl
theorem Tryz.field28_3:zbu Tryz.prog 28 3=some (3,false,1):=by kernel_rfl
theorem Tryz.elem39:zbf Tryz.prog 39=some 1:=by kernel_rfl
theorem Tryz.bld39:zcl Tryz.prog 39=some (1,(.slice none 0 0)):=by kernel_rfl
theorem Tryz.elem42:zbf Tryz.prog 42=some 1:=by kernel_rfl
theorem Tryz.bld42:zcl Tryz.prog 42=some (1,(.slice none 0 0)):=by kernel_rfl
theorem Tryz.agg44:aggT Tryz.prog 44=some true:=by kernel_rfl
theorem Tryz.size44:zN Tryz.prog 44=some 3:=by kernel_rfl
theorem Tryz.zero44:zaU Tryz.prog 44=some (.agg ([(.string ⟨([]:List UInt8).toArray⟩),(.string ⟨([]:List UInt8).toArray⟩),(.int .i64 0)]:List Value).toArray):=by kernel_rfl
theorem Tryz.self44:zkD Tryz.prog 44=false:=by kernel_rfl
theorem Tryz.field44_0:zbu Tryz.prog 44 0=some (0,false,1):=by kernel_rfl
theorem Tryz.field44_1:zbu Tryz.prog 44 1=some (1,false,1):=by kernel_rfl
theorem Tryz.field44_2:zbu Tryz.prog 44 2=some (2,false,1):=by kernel_rfl
theorem Tryz.agg61:aggT Tryz.prog 61=some false:=by kernel_rfl
theorem Tryz.size61:zN Tryz.prog 61=some 1:=by kernel_rfl
theorem Tryz.mapSS61:zxr Tryz.prog 61=true:=by kernel_rfl
theorem Tryz.agg62:aggT Tryz.prog 62=some false:=by kernel_rfl
theorem Tryz.size62:zN Tryz.prog 62=some 1:=by kernel_rfl
theorem Tryz.agg64:aggT Tryz.prog 64=some true:=by kernel_rfl
theorem Tryz.size64:zN Tryz.prog 64=some 2:=by kernel_rfl
theorem Tryz.zero64:zaU Tryz.prog 64=some (.agg ([(.map none),(.map none)]:List Value).toArray):=by kernel_rfl
theorem Tryz.self64:zkD Tryz.prog 64=false:=by kernel_rfl
theorem Tryz.places64:zdI Tryz.prog 64=some [(0,1),(1,1)]:=by kernel_rfl
theorem Tryz.field64_0:zbu Tryz.prog 64 0=some (0,false,1):=by kernel_rfl
theorem Tryz.field64_1:zbu Tryz.prog 64 1=some (1,false,1):=by kernel_rfl
theorem Tryz.zero81:zaU Tryz.prog 81=some (.agg ([(.string ⟨([]:List UInt8).toArray⟩),(.string ⟨([]:List UInt8).toArray⟩)]:List Value).toArray):=by kernel_rfl
theorem Tryz.places81:zdI Tryz.prog 81=some [(0,1),(1,1)]:=by kernel_rfl
theorem Tryz.agg87:aggT Tryz.prog 87=some true:=by kernel_rfl
theorem Tryz.size87:zN Tryz.prog 87=some 3:=by kernel_rfl
theorem Tryz.zero87:zaU Tryz.prog 87=some (.agg ([(.bool false),(.string ⟨([]:List UInt8).toArray⟩),(.string ⟨([]:List UInt8).toArray⟩)]:List Value).toArray):=by kernel_rfl
theorem Tryz.self87:zkD Tryz.prog 87=false:=by kernel_rfl
theorem Tryz.places87:zdI Tryz.prog 87=some [(0,1),(1,1),(2,1)]:=by kernel_rfl
theorem Tryz.field87_0:zbu Tryz.prog 87 0=some (0,false,1):=by kernel_rfl
theorem Tryz.field87_1:zbu Tryz.prog 87 1=some (1,false,1):=by kernel_rfl
theorem Tryz.field87_2:zbu Tryz.prog 87 2=some (2,false,1):=by kernel_rfl
theorem Tryz.row94:rowE Tryz.prog 94=(false,3):=by kernel_rfl
theorem Tryz.elem94:zbf Tryz.prog 94=some 1:=by kernel_rfl
theorem Tryz.app94:appT Tryz.prog 94=some (1,8,true):=by kernel_rfl
theorem Tryz.bld94:zcl Tryz.prog 94=some (1,(.int .i64 0)):=by kernel_rfl
theorem Tryz.zeroE94:zeroE Tryz.prog 94=some (.int .i64 0):=by kernel_rfl
theorem Tryz.zero105:zaU Tryz.prog 105=some (.agg ([]:List Value).toArray):=by kernel_rfl
theorem Tryz.places105:zdI Tryz.prog 105=some []:=by kernel_rfl
theorem Tryz.row106:rowE Tryz.prog 106=(false,108):=by kernel_rfl
theorem Tryz.elem106:zbf Tryz.prog 106=some 1:=by kernel_rfl
theorem Tryz.app106:appT Tryz.prog 106=some (1,8,true):=by kernel_rfl
theorem Tryz.bld106:zcl Tryz.prog 106=some (1,(.int .u64 0)):=by kernel_rfl
theorem Tryz.zeroE106:zeroE Tryz.prog 106=some (.int .u64 0):=by kernel_rfl
theorem Tryz.agg108:aggT Tryz.prog 108=some false:=by kernel_rfl
theorem Tryz.size108:zN Tryz.prog 108=some 1:=by kernel_rfl
theorem Tryz.agg117:aggT Tryz.prog 117=some false:=by kernel_rfl
theorem Tryz.size117:zN Tryz.prog 117=some 1:=by kernel_rfl
theorem Tryz.agg118:aggT Tryz.prog 118=some false:=by kernel_rfl
theorem Tryz.size118:zN Tryz.prog 118=some 1:=by kernel_rfl
theorem Tryz.row118:rowE Tryz.prog 118=(true,5):=by kernel_rfl
theorem Tryz.elem118:zbf Tryz.prog 118=some 1:=by kernel_rfl
theorem Tryz.app118:appT Tryz.prog 118=some (1,1,true):=by kernel_rfl
theorem Tryz.bld118:zcl Tryz.prog 118=some (1,(.int .u8 0)):=by kernel_rfl
theorem Tryz.agg152:aggT Tryz.prog 152=some false:=by kernel_rfl
theorem Tryz.size152:zN Tryz.prog 152=some 1:=by kernel_rfl
theorem Tryz.zero154:zaU Tryz.prog 154=some (.agg ([(.pointer none),(.slice none 0 0)]:List Value).toArray):=by kernel_rfl
theorem Tryz.self154:zkD Tryz.prog 154=true:=by kernel_rfl
theorem Tryz.field154_0:zbu Tryz.prog 154 0=some (0,false,1):=by kernel_rfl
theorem Tryz.field154_1:zbu Tryz.prog 154 1=some (1,false,1):=by kernel_rfl
attribute [go_sem] Tryz.underlying2 Tryz.agg3 Tryz.size3 Tryz.underlying3 Tryz.agg4 Tryz.size4 Tryz.underlying4 Tryz.agg5 Tryz.size5 Tryz.underlying5 Tryz.agg9 Tryz.size9 Tryz.zero9 Tryz.underlying9 Tryz.underlying20 Tryz.agg22 Tryz.size22 Tryz.underlying22 Tryz.elem22 Tryz.agg24 Tryz.size24 Tryz.underlying24 Tryz.field24_0 Tryz.field24_1 Tryz.agg25 Tryz.size25 Tryz.underlying25 Tryz.row25 Tryz.elem25 Tryz.app25 Tryz.bld25 Tryz.agg26 Tryz.size26 Tryz.underlying26 Tryz.row26 Tryz.elem26 Tryz.app26 Tryz.bld26 Tryz.agg28 Tryz.size28 Tryz.zero28 Tryz.underlying28 Tryz.self28 Tryz.places28 Tryz.field28_0 Tryz.field28_1 Tryz.field28_2 Tryz.field28_3 Tryz.underlying34 Tryz.underlying39 Tryz.elem39 Tryz.bld39 Tryz.underlying42 Tryz.elem42 Tryz.bld42 Tryz.agg44 Tryz.size44 Tryz.zero44 Tryz.underlying44 Tryz.self44 Tryz.field44_0 Tryz.field44_1 Tryz.field44_2 Tryz.underlying47 Tryz.underlying53 Tryz.underlying56 Tryz.agg61 Tryz.size61 Tryz.underlying61 Tryz.mapSS61 Tryz.agg62 Tryz.size62 Tryz.underlying62 Tryz.agg64 Tryz.size64 Tryz.zero64 Tryz.underlying64 Tryz.self64 Tryz.places64 Tryz.field64_0 Tryz.field64_1 Tryz.underlying77 Tryz.underlying79 Tryz.zero81 Tryz.underlying81 Tryz.places81 Tryz.underlying84 Tryz.agg87 Tryz.size87 Tryz.zero87 Tryz.underlying87 Tryz.self87 Tryz.places87 Tryz.field87_0 Tryz.field87_1 Tryz.field87_2 Tryz.underlying94 Tryz.row94 Tryz.elem94 Tryz.app94 Tryz.bld94 Tryz.zeroE94 Tryz.zero105 Tryz.underlying105 Tryz.places105 Tryz.underlying106 Tryz.row106 Tryz.elem106 Tryz.app106 Tryz.bld106 Tryz.zeroE106 Tryz.agg108 Tryz.size108 Tryz.underlying108 Tryz.underlying114 Tryz.agg117 Tryz.size117 Tryz.underlying117 Tryz.agg118 Tryz.size118 Tryz.underlying118 Tryz.row118 Tryz.elem118 Tryz.app118 Tryz.bld118 Tryz.underlying140 Tryz.underlying143 Tryz.agg152 Tryz.size152 Tryz.underlying152 Tryz.zero154 Tryz.underlying154 Tryz.self154 Tryz.field154_0 Tryz.field154_1 Tryz.underlying157 Tryz.underlying163 Tryz.underlying173 Tryz.underlying184 Tryz.underlying192 Tryz.underlying193 Tryz.underlying197
end Go.Proofs

namespace Go.Ab
open Go.Cnt
def entV(e:Ent):List V:=[.str e.1.1,.str e.1.2,.int .i64 e.2]
theorem zlF {x y:Ent}(h:entV x=entV y):x=y:=by obtain⟨⟨a,b⟩,n⟩:=x;obtain⟨⟨c,d⟩,m⟩:=y;simp [entV]at h;obtain⟨rfl,rfl,rfl⟩:=h;rfl
def cnts(l:List Ent):List V:=l.flatMap entV
def nthE(l:List Ent)(i:Nat):Ent:=l.getD i (([],[]),0)
theorem cnts_nil:cnts []=[]:=rfl
theorem zck(e:Ent)(l:List Ent):cnts (e::l)=.str e.1.1::.str e.1.2::.int .i64 e.2::cnts l:=rfl
theorem zq5:∀ l:List Ent,(cnts l).length=l.length*3
 |[]=>rfl
 |e::l=>by rw [zck];simp only [List.length_cons];rw [zq5 l];omega
theorem znH:∀(l:List Ent) (i:Nat),(cnts l).drop (i*3)=cnts (l.drop i)
 |l,0=>by simp
 |[],i+1=>by simp [cnts_nil]
 |e::l,i+1=>by rw [zck,show (i+1)*3=i*3+1+1+1 by omega];simp only [List.drop_succ_cons];exact znH l i
theorem znD:∀(l:List Ent) (i:Nat),i<l.length→l.drop i=nthE l i::l.drop (i+1)
 |[],_,h=>by simp at h
 |e::l,0,_=>rfl
 |e::l,i+1,h=>by have:=znD l i (by simpa using h);simpa [nthE] using this
theorem zew(l:List Ent)(i:Nat)(h:i<l.length):(cnts l).drop (i*3)=.str (nthE l i).1.1::.str (nthE l i).1.2::.int .i64 (nthE l i).2::cnts (l.drop (i+1)):=by rw [znH,znD l i h,zck]
theorem zdi:∀ l:List Ent,∀ x∈cnts l,Pure x
 |[],_,h=>by cases h
 |e::l,x,h=>by
  rw [zck]at h;simp only [List.mem_cons]at h;rcases h with rfl|rfl|rfl|h
  ·exact .str _
  ·exact .str _
  ·exact .int _ _
  ·exact zdi l x h
theorem zjB(l:List Ent):(∀ x∈cnts l,Pure x)↔True:=⟨fun _=>trivial,fun _=>zdi l⟩
theorem zcv:∀ {l r:List Ent},cnts l=cnts r→l=r
 |[],[],_=>rfl
 |[],e::r,h=>by rw [zck]at h;cases h
 |e::l,[],h=>by rw [zck]at h;cases h
 |e::l,e'::r,h=>by rw [zck,zck]at h;simp only [List.cons.injEq,V.str.injEq,V.int.injEq,true_and]at h;obtain⟨h1,h2,h3,h4⟩:=h;rw [zcv h4];congr 1;exact Prod.ext (Prod.ext h1 h2) h3
attribute [go_sem] zjB zq5
attribute [go_sem] List.map_cons List.map_nil List.all_cons List.all_nil
attribute [push_cast] zjB
end Go.Ab

namespace Go.Proofs
open Go.Ab
theorem mixed:Tryz.prog.follows .mixedOrders=true:=by kernel_rfl
theorem call5:zi Tryz.prog 5:=fun a w=>by kernel_rfl
theorem call6:zi Tryz.prog 6:=fun a w=>by kernel_rfl
theorem call9:zi Tryz.prog 9:=fun a w=>by kernel_rfl
theorem call11:zi Tryz.prog 11:=fun a w=>by kernel_rfl
theorem call13:zi Tryz.prog 13:=fun a w=>by kernel_rfl
theorem call16:zi Tryz.prog 16:=fun a w=>by kernel_rfl
theorem call22:zi Tryz.prog 22:=fun a w=>by kernel_rfl
theorem call23:zi Tryz.prog 23:=fun a w=>by kernel_rfl
theorem call24:zi Tryz.prog 24:=fun a w=>by kernel_rfl
theorem call26:zi Tryz.prog 26:=fun a w=>by kernel_rfl
theorem call27:zi Tryz.prog 27:=fun a w=>by kernel_rfl
theorem call29:zi Tryz.prog 29:=fun a w=>by kernel_rfl
theorem call32:zi Tryz.prog 32:=fun a w=>by kernel_rfl
theorem call33:zi Tryz.prog 33:=fun a w=>by kernel_rfl
theorem call34:zi Tryz.prog 34:=fun a w=>by kernel_rfl
theorem call35:zi Tryz.prog 35:=fun a w=>by kernel_rfl
theorem call37:zi Tryz.prog 37:=fun a w=>by kernel_rfl
theorem call42:zi Tryz.prog 42:=fun a w=>by kernel_rfl
theorem call43:zi Tryz.prog 43:=fun a w=>by kernel_rfl
theorem call44:zi Tryz.prog 44:=fun a w=>by kernel_rfl
theorem call45:zi Tryz.prog 45:=fun a w=>by kernel_rfl
theorem call47:zi Tryz.prog 47:=fun a w=>by kernel_rfl
theorem call48:zi Tryz.prog 48:=fun a w=>by kernel_rfl
theorem call51:zi Tryz.prog 51:=fun a w=>by kernel_rfl
theorem call55:zi Tryz.prog 55:=fun a w=>by kernel_rfl
theorem call56:zi Tryz.prog 56:=fun a w=>by kernel_rfl
theorem call57:zi Tryz.prog 57:=fun a w=>by kernel_rfl
theorem call58:zi Tryz.prog 58:=fun a w=>by kernel_rfl
theorem call60:zi Tryz.prog 60:=fun a w=>by kernel_rfl
theorem call63:zi Tryz.prog 63:=fun a w=>by kernel_rfl
theorem call64:zi Tryz.prog 64:=fun a w=>by kernel_rfl
theorem call65:zi Tryz.prog 65:=fun a w=>by kernel_rfl
theorem call66:zi Tryz.prog 66:=fun a w=>by kernel_rfl
theorem call70:zi Tryz.prog 70:=fun a w=>by kernel_rfl
theorem call71:zi Tryz.prog 71:=fun a w=>by kernel_rfl
theorem call72:zi Tryz.prog 72:=fun a w=>by kernel_rfl
theorem call73:zi Tryz.prog 73:=fun a w=>by kernel_rfl
theorem call74:zi Tryz.prog 74:=fun a w=>by kernel_rfl
theorem call75:zi Tryz.prog 75:=fun a w=>by kernel_rfl
theorem call76:zi Tryz.prog 76:=fun a w=>by kernel_rfl
theorem call77:zi Tryz.prog 77:=fun a w=>by kernel_rfl
theorem call78:zi Tryz.prog 78:=fun a w=>by kernel_rfl
theorem call80:zi Tryz.prog 80:=fun a w=>by kernel_rfl
theorem call81:zi Tryz.prog 81:=fun a w=>by kernel_rfl
theorem call82:zi Tryz.prog 82:=fun a w=>by kernel_rfl
theorem call83:zi Tryz.prog 83:=fun a w=>by kernel_rfl
theorem call84:zi Tryz.prog 84:=fun a w=>by kernel_rfl
theorem call85:zi Tryz.prog 85:=fun a w=>by kernel_rfl
theorem call86:zi Tryz.prog 86:=fun a w=>by kernel_rfl
theorem call87:zi Tryz.prog 87:=fun a w=>by kernel_rfl
theorem call88:zi Tryz.prog 88:=fun a w=>by kernel_rfl
theorem call89:zi Tryz.prog 89:=fun a w=>by kernel_rfl
theorem call90:zi Tryz.prog 90:=fun a w=>by kernel_rfl
theorem zy3:zi Tryz.prog 94:=fun a w=>by kernel_rfl
theorem call95:zi Tryz.prog 95:=fun a w=>by kernel_rfl
theorem call96:zi Tryz.prog 96:=fun a w=>by kernel_rfl
theorem call98:zi Tryz.prog 98:=fun a w=>by kernel_rfl
theorem call99:zi Tryz.prog 99:=fun a w=>by kernel_rfl
theorem call100:zi Tryz.prog 100:=fun a w=>by kernel_rfl
theorem call101:zi Tryz.prog 101:=fun a w=>by kernel_rfl
theorem call102:zi Tryz.prog 102:=fun a w=>by kernel_rfl
theorem call103:zi Tryz.prog 103:=fun a w=>by kernel_rfl
theorem call104:zi Tryz.prog 104:=fun a w=>by kernel_rfl
theorem call105:zi Tryz.prog 105:=fun a w=>by kernel_rfl
theorem call107:zi Tryz.prog 107:=fun a w=>by kernel_rfl
theorem call108:zi Tryz.prog 108:=fun a w=>by kernel_rfl
theorem call109:zi Tryz.prog 109:=fun a w=>by kernel_rfl
theorem call110:zi Tryz.prog 110:=fun a w=>by kernel_rfl
theorem call111:zi Tryz.prog 111:=fun a w=>by kernel_rfl
theorem call112:zi Tryz.prog 112:=fun a w=>by kernel_rfl
theorem call113:zi Tryz.prog 113:=fun a w=>by kernel_rfl
theorem zpM:zi Tryz.prog 126:=fun a w=>by kernel_rfl
theorem call127:zi Tryz.prog 127:=fun a w=>by kernel_rfl
theorem call137:zi Tryz.prog 137:=fun a w=>by kernel_rfl
theorem call138:zi Tryz.prog 138:=fun a w=>by kernel_rfl
theorem call139:zi Tryz.prog 139:=fun a w=>by kernel_rfl
theorem call140:zi Tryz.prog 140:=fun a w=>by kernel_rfl
theorem call141:zi Tryz.prog 141:=fun a w=>by kernel_rfl
theorem zpL:zi Tryz.prog 142:=fun a w=>by kernel_rfl
theorem zd1:zi Tryz.prog 143:=fun a w=>by kernel_rfl
theorem call144:zi Tryz.prog 144:=fun a w=>by kernel_rfl
theorem zy5:zi Tryz.prog 145:=fun a w=>by kernel_rfl
theorem call146:zi Tryz.prog 146:=fun a w=>by kernel_rfl
theorem call147:zi Tryz.prog 147:=fun a w=>by kernel_rfl
theorem call148:zi Tryz.prog 148:=fun a w=>by kernel_rfl
theorem call149:zi Tryz.prog 149:=fun a w=>by kernel_rfl
theorem call155:zi Tryz.prog 155:=fun a w=>by kernel_rfl
theorem call156:zi Tryz.prog 156:=fun a w=>by kernel_rfl
theorem call157:zi Tryz.prog 157:=fun a w=>by kernel_rfl
theorem call158:zi Tryz.prog 158:=fun a w=>by kernel_rfl
theorem call159:zi Tryz.prog 159:=fun a w=>by kernel_rfl
theorem call160:zi Tryz.prog 160:=fun a w=>by kernel_rfl
theorem call165:zi Tryz.prog 165:=fun a w=>by kernel_rfl
theorem call169:zi Tryz.prog 169:=fun a w=>by kernel_rfl
theorem call170:zi Tryz.prog 170:=fun a w=>by kernel_rfl
theorem zy4:zi Tryz.prog 171:=fun a w=>by kernel_rfl
theorem call173:zi Tryz.prog 173:=fun a w=>by kernel_rfl
theorem call176:zi Tryz.prog 176:=fun a w=>by kernel_rfl
theorem call177:zi Tryz.prog 177:=fun a w=>by kernel_rfl
end Go.Proofs

namespace Go.Proofs
open Go.Ab Go.Cnt
def nameB(s:Str):Bool:= !(s==[])&&decide (s.length≤40)
def zdK(s:Str):Bool:=s==[]||nameB s
theorem zxS(s:Str):PCall Tryz.prog 24 [.str s] (.ret (.bool (nameB s))):=by refine PCall.walk (rs:=[.tmp 2]) [0,2] [] mixed (zh) (zg) call24 Tryz.func24 rfl Tryz.ntmps24 rfl (by kernel_rfl) (by simp) (by simp [push_cast]) ?_;simp only [go_sem];have e:decide ((s.length:Int)≤40)=decide (s.length≤40):=decide_eq_decide.2 (by omega);unfold nameB;rw [e];cases s<;>simp
noncomputable def cName:List V→Option PR:=zD (fun a:Str=>[.str a]) (fun _=>True) fun a=>.ret (.bool (nameB a))
theorem cName_eq(a:Str):cName [.str a]=some (.ret (.bool (nameB a))):=zn (pat:=fun a:Str=>[.str a]) (fun x y h=>by simpa using h) a trivial
theorem zfY:∀ args r,cName args=some r→PCall Tryz.prog 24 args r:=zo fun a _=>zxS a
attribute [go_sem] cName_eq
theorem ztB(s:Str):PCall Tryz.prog 23 [.str s] (.ret (.bool (zdK s))):=by refine PCall.walk (rs:=[.tmp 2]) [0,2] [] mixed (zf zfY zh) (zg) call23 Tryz.func23 rfl Tryz.ntmps23 rfl (by kernel_rfl) (by simp) (by simp [push_cast]) ?_;simp only [go_sem];by_cases h:s=[]<;>simp [zdK,h]
noncomputable def cNameE:List V→Option PR:=zD (fun a:Str=>[.str a]) (fun _=>True) fun a=>.ret (.bool (zdK a))
theorem zzB(a:Str):cNameE [.str a]=some (.ret (.bool (zdK a))):=zn (pat:=fun a:Str=>[.str a]) (fun x y h=>by simpa using h) a trivial
theorem ziz:∀ args r,cNameE args=some r→PCall Tryz.prog 23 args r:=zo fun a _=>ztB a
attribute [go_sem] zzB
theorem isNaN_ok(s:Str):PCall Tryz.prog 51 [.str s] (.ret (.bool false)):=by refine PCall.walk (rs:=[.tmp 2]) [0,2] [] mixed (zh) (zg) call51 Tryz.func51 rfl Tryz.ntmps51 rfl (by kernel_rfl) (by simp) (by simp [push_cast]) ?_;simp only [go_sem]
noncomputable def cIsNaN:List V→Option PR:=zD (fun a:Str=>[.str a]) (fun _=>True) fun _=>.ret (.bool false)
theorem zzW(a:Str):cIsNaN [.str a]=some (.ret (.bool false)):=zn (pat:=fun a:Str=>[.str a]) (fun x y h=>by simpa using h) a trivial
theorem zzV:∀ args r,cIsNaN args=some r→PCall Tryz.prog 51 args r:=zo fun a _=>isNaN_ok a
attribute [go_sem] zzW
theorem cmpS_ok(a b:Str):PCall Tryz.prog 27 [.str a,.str b] (.ret (.int .i64 (cmpS a b))):=by
 refine PCall.walk (rs:=[.tmp 4]) [0,1,4,5,6,11,12,13,16,19] [] mixed (zf zzV zh) (zg) call27 Tryz.func27 rfl Tryz.ntmps27 rfl (by kernel_rfl) (by simp) (by simp [push_cast]) ?_;simp only [go_sem];rcases zgu a b with⟨h,e⟩|⟨h,e⟩|⟨h,h',e⟩
 ·have h1:ltS a b=true:=h;simp only [go_sem,h1,e]
 ·subst h;have h1:ltS a a=false:=zbF a;simp only [go_sem,h1,e]
 ·have h1:ltS a b=false:=h';have h2:¬a=b:=fun he=>by subst he;rw [zbF]at h;cases h
  simp only [go_sem,h1,h2,decide_false,e]
noncomputable def cCmpS:List V→Option PR:=zD (fun p:Str×Str=>[.str p.1,.str p.2]) (fun _=>True) fun p=>.ret (.int .i64 (cmpS p.1 p.2))
theorem cCmpS_eq(a b:Str):cCmpS [.str a,.str b]=some (.ret (.int .i64 (cmpS a b))):=zn (pat:=fun p:Str×Str=>[.str p.1,.str p.2]) (fun x y h=>by simp at h;exact Prod.ext h.1 h.2) (a,b) trivial
theorem zhj:∀ args r,cCmpS args=some r→PCall Tryz.prog 27 args r:=zo fun p _=>cmpS_ok p.1 p.2
attribute [go_sem] cCmpS_eq
def orI(x y:Int):Int:=if x≠0 then x else y
theorem or_ok(x y:Int):PCall Tryz.prog 80 [.fs [.int .i64 x,.int .i64 y] 2] (.ret (.int .i64 (orI x y))):=by
 refine PCall.walk (rs:=[.tmp 2]) [0,2,3,5,6,7,8,9,14] [] mixed (zh) (zg) call80 Tryz.func80 rfl Tryz.ntmps80 rfl (by kernel_rfl) (by simp) (by simp [push_cast]) ?_;simp only [go_sem];refine AXs.rounds mixed zh zg [(),()] (by kernel_rfl) ?_;simp only [go_sem];by_cases hx:x=0
 ·subst hx;simp only [go_sem];by_cases hy:y=0
  ·subst hy;simp only [go_sem];refine AXa.go mixed (zh) (zg) (by kernel_rfl) ?_;simp only [go_sem,orI]
  ·simp only [go_sem,hy,orI]
 ·simp only [go_sem,hx,orI]
noncomputable def cOr:List V→Option PR:=zD (fun p:Int×Int=>[.fs [.int .i64 p.1,.int .i64 p.2] 2]) (fun _=>True) fun p=>.ret (.int .i64 (orI p.1 p.2))
theorem cOr_eq(x y:Int):cOr [.fs [.int .i64 x,.int .i64 y] 2]=some (.ret (.int .i64 (orI x y))):=zn (pat:=fun p:Int×Int=>[.fs [.int .i64 p.1,.int .i64 p.2] 2]) (fun x y h=>by simp at h;exact Prod.ext h.1 h.2) (x,y) trivial
theorem cOr_ok:∀ args r,cOr args=some r→PCall Tryz.prog 80 args r:=zo fun p _=>or_ok p.1 p.2
attribute [go_sem] cOr_eq
theorem cmpK_ok(a b c d:Str)(n m:Int):PCall Tryz.prog 48 [.agg [.str a,.str b,.int .i64 n],.agg [.str c,.str d,.int .i64 m]] (.ret (.int .i64 (cmpK (a,b) (c,d)))):=by refine PCall.walk (rs:=[.tmp 4]) [0,1,2,3,4] [] mixed (zf zhj (zf cOr_ok zh)) (zg) call48 Tryz.func48 rfl Tryz.ntmps48 rfl (by kernel_rfl) (by simp) (by simp [push_cast]) ?_;simp only [go_sem];refine AXk.intro (by kernel_rfl) ?_;simp only [go_sem];simp only [orI,cmpK]
noncomputable def cCmpK:List V→Option PR:=zD (fun p:Ent×Ent=>[.agg (entV p.1),.agg (entV p.2)]) (fun _=>True) fun p=>.ret (.int .i64 (cmpK p.1.1 p.2.1))
theorem cCmpK_eq(a b c d:Str)(n m:Int):cCmpK [.agg [.str a,.str b,.int .i64 n],.agg [.str c,.str d,.int .i64 m]]=some (.ret (.int .i64 (cmpK (a,b) (c,d)))):=
 zn (pat:=fun p:Ent×Ent=>[.agg (entV p.1),.agg (entV p.2)]) (fun x y h=>by simp only [List.cons.injEq,V.agg.injEq,and_true]at h;exact Prod.ext (zlF h.1) (zlF h.2)) (((a,b),n),((c,d),m)) trivial
theorem zlV:∀ args r,cCmpK args=some r→PCall Tryz.prog 48 args r:=zo fun p _=>cmpK_ok p.1.1.1 p.1.1.2 p.2.1.1 p.2.1.2 p.1.2 p.2.2
attribute [go_sem] cCmpK_eq
end Go.Proofs
