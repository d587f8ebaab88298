/- Lists of counts in their order, and maps of counts; no program in sight. -/
import Derived.Test.YtfilkkmcagndlaaGreatDoorAbVal
import Derived.Test.YtfilkkmcagndlaaGreatDoorAbSimp2
set_option linter.all false
namespace Go.Cnt
abbrev Str:=List UInt8
abbrev Key:=Str×Str
abbrev Ent:=Key×Int
theorem zbF:∀ a:Str,Op.bytesLess a a=false
 |[]=>rfl
 |x::a=>by rw [Op.bytesLess,zbF a];simp
theorem zom {a b c:UInt8}(h:a<b)(k:b<c):a<c:=by rw [UInt8.lt_iff_toNat_lt]at *; omega
theorem u8_tri(a b:UInt8):a<b∨a=b∨b<a:=by
 rcases Nat.lt_trichotomy a.toNat b.toNat with h|h|h
 ·exact .inl (UInt8.lt_iff_toNat_lt.2 h)
 ·exact .inr (.inl (UInt8.toNat_inj.1 h))
 ·exact .inr (.inr (UInt8.lt_iff_toNat_lt.2 h))
theorem zlW(x y:UInt8)(a b:Str):Op.bytesLess (x::a) (y::b)=true↔x<y∨(x=y∧Op.bytesLess a b=true):=by rw [Op.bytesLess];simp
theorem zc4:∀ {a b c:Str},Op.bytesLess a b=true→Op.bytesLess b c=true→Op.bytesLess a c=true
 |_,[],_,h,_=>by simp [Op.bytesLess]at h
 |_,_::_,[],_,k=>by simp [Op.bytesLess]at k
 |[],_::_,_::_,_,_=>rfl
 |x::a,y::b,z::c,h,k=>by
  rw [zlW]at*;rcases h with h|⟨rfl,h⟩<;>rcases k with k|⟨rfl,k⟩
  ·exact .inl (zom h k)
  ·exact .inl h
  ·exact .inl k
  ·exact .inr ⟨rfl,zc4 h k⟩
theorem zj8:∀ a b:Str,Op.bytesLess a b=true∨a=b∨Op.bytesLess b a=true
 |[],[]=>.inr (.inl rfl)
 |[],_::_=>.inl rfl
 |_::_,[]=>.inr (.inr rfl)
 |x::a,y::b=>by
  rw [zlW,zlW];rcases u8_tri x y with h|h|h
  ·exact .inl (.inl h)
  ·subst h;rcases zj8 a b with h|h|h
   ·exact .inl (.inr ⟨rfl,h⟩)
   ·exact .inr (.inl (by rw [h]))
   ·exact .inr (.inr (.inr ⟨rfl,h⟩))
  ·exact .inr (.inr (.inl h))
def lt(x y:Key):Bool:=Op.bytesLess x.1 y.1||(x.1==y.1&&Op.bytesLess x.2 y.2)
theorem zmW(x y:Key):lt x y=true↔Op.bytesLess x.1 y.1=true∨(x.1=y.1∧Op.bytesLess x.2 y.2=true):=by simp [lt]
theorem lt_irrefl(x:Key):lt x x=false:=by simp [lt,zbF]
theorem lt_trans {x y z:Key}(h:lt x y=true)(k:lt y z=true):lt x z=true:=by
 rw [zmW]at*;rcases h with h|⟨h1,h⟩<;>rcases k with k|⟨k1,k⟩
 ·exact .inl (zc4 h k)
 ·exact .inl (by rw [←k1];exact h)
 ·exact .inl (by rw [h1];exact k)
 ·exact .inr ⟨h1.trans k1,zc4 h k⟩
theorem zq0 {x y:Key}(h:lt x y=true):lt y x=false:=by
 cases e:lt y x with
 |false=>rfl
 |true=>have:=lt_trans h e;rw [lt_irrefl]at this;cases this
def cmpS(a b:Str):Int:=if Op.bytesLess a b=true then -1 else if Op.bytesLess b a=true then 1 else 0
def cmpK(x y:Key):Int:=if cmpS x.1 y.1≠0 then cmpS x.1 y.1 else cmpS x.2 y.2
theorem zgu(a b:Str):(Op.bytesLess a b=true∧cmpS a b= -1)∨(a=b∧cmpS a b=0)∨(Op.bytesLess b a=true∧Op.bytesLess a b=false∧cmpS a b=1):=by
 unfold cmpS;rcases zj8 a b with h|h|h
 ·exact .inl ⟨h,by rw [if_pos h]⟩
 ·subst h;exact .inr (.inl ⟨rfl,by simp [zbF]⟩)
 ·have h':Op.bytesLess a b=false:=by
   cases e:Op.bytesLess a b with
   |false=>rfl
   |true=>have:=zc4 h e;rw [zbF]at this;cases this
  exact .inr (.inr ⟨h,h',by rw [h',h];simp⟩)
theorem zuq(x y:Key):(lt x y=true∧cmpK x y= -1)∨(x=y∧cmpK x y=0)∨(lt y x=true∧lt x y=false∧cmpK x y=1):=by
 unfold cmpK;rcases zgu x.1 y.1 with⟨h,e⟩|⟨h,e⟩|⟨h,h',e⟩
 ·exact .inl ⟨(zmW ..).2 (.inl h),by rw [e];simp⟩
 ·rw [e];simp only [ne_eq,not_true_eq_false,if_false];rcases zgu x.2 y.2 with⟨k,e'⟩|⟨k,e'⟩|⟨k,k',e'⟩
  ·exact .inl ⟨(zmW ..).2 (.inr ⟨h,k⟩),e'⟩
  ·exact .inr (.inl ⟨Prod.ext h k,e'⟩)
  ·have hl:lt y x=true:=(zmW ..).2 (.inr ⟨h.symm,k⟩);exact .inr (.inr ⟨hl,zq0 hl,e'⟩)
 ·have hl:lt y x=true:=(zmW ..).2 (.inl h);exact .inr (.inr ⟨hl,zq0 hl,by rw [e];simp⟩)
theorem zry(x y:Key):cmpK x y<0↔lt x y=true:=by
 rcases zuq x y with⟨h,e⟩|⟨h,e⟩|⟨h,h',e⟩
 ·rw [e,h];simp
 ·subst h;rw [e,lt_irrefl];simp
 ·rw [e,h'];simp
theorem cmpK_ge(x y:Key):0≤cmpK x y↔lt x y=false:=by
 have:=zry x y;cases e:lt x y with
 |true=>rw [e]at this;simp at this;simp;omega
 |false=>rw [e]at this;simp at this;simp;omega
def Dif(l:List Ent):Prop:=l.Pairwise fun a b=>a.1≠b.1
def val:List Ent→Key→Int
 |[],_=>0
 |e::l,k=>if e.1=k then e.2 else val l k
def has:List Ent→Key→Bool
 |[],_=>false
 |e::l,k=>if e.1=k then true else has l k
def pos:List Ent→Key→Nat
 |[],_=>0
 |e::l,k=>if e.1=k then 0 else pos l k+1
def ent:List Ent→Key→List Ent
 |[],k=>[(k,0)]
 |e::l,k=>if e.1=k then e::l else e::ent l k
def sto:List Ent→Key→Int→List Ent
 |[],k,n=>[(k,n)]
 |e::l,k,n=>if e.1=k then(e.1,n)::l else e::sto l k n
theorem zyr:∀ {l:List Ent} {k:Key},has l k=false→ent l k=l++[(k,0)]∧val l k=0∧pos l k=l.length
 |[],_,_=>⟨rfl,rfl,rfl⟩
 |e::l,k,h=>by
  rw [has]at h;rw [ent,val,pos];by_cases hk:e.1=k
  ·rw [if_pos hk]at h;cases h
  ·rw [if_neg hk]at h;rw [if_neg hk,if_neg hk,if_neg hk];obtain⟨h1,h2,h3⟩:=zyr h;exact⟨by rw [h1];rfl,h2,by rw [h3];rfl⟩
end Go.Cnt

namespace Go.Ab
open Go.Cnt
variable {P:Program}{C:Cfg}{env:Env}{H:Hp}
def mpF:Nat→List Ent→List (Nat×V×V)
 |_,[]=>[]
 |i,e::l=>(i,.agg [.str e.1.1,.str e.1.2],.int .i64 e.2)::mpF (i+1) l
theorem zjH:∀(i:Nat) (l r:List Ent),mpF i (l++r)=mpF i l++mpF (i+l.length) r
 |_,[],_=>rfl
 |i,e::l,r=>by rw [List.cons_append,mpF,zjH,mpF,List.length_cons,show i+(l.length+1)=i+1+l.length by omega];rfl
theorem keyEq_ss(a b c d:Str):ztz (.agg [.str a,.str b]) (.agg [.str c,.str d])=some (decide ((c,d)=(a,b))):=by
 show zgF [.str a,.str b] [.str c,.str d]=_;simp only [zgF,zdk];by_cases h:a=c
 ·subst h;by_cases k:b=d
  ·subst k;simp
  ·have k':¬d=b:=fun e=>k e.symm;have e:(b==d)=false:=by simp [k]
   rw [e];simp [k']
 ·have h':¬c=a:=fun e=>h e.symm;have e:(a==c)=false:=by simp [h]
  rw [e];simp [h']
theorem zlD(a b:Str):∀(i:Nat) (l:List Ent) (j:Nat),zeb (.agg [.str a,.str b]) (mpF i l) j=some (match has l (a,b)with|true=>some (j+pos l (a,b),.int .i64 (val l (a,b)))|false=>none)
 |i,[],j=>rfl
 |i,e::l,j=>by
  rw [mpF,zeb,keyEq_ss,has,pos,val];by_cases h:e.1=(a,b)
  ·rw [if_pos h,if_pos h,if_pos h,decide_eq_true (show (e.1.1,e.1.2)=(a,b)from h)];rfl
  ·rw [if_neg h,if_neg h,if_neg h,decide_eq_false (show ¬(e.1.1,e.1.2)=(a,b)from h)];show zeb _ _ _=_;rw [zlD a b (i+1) l (j+1),show j+1+pos l (a,b)=j+(pos l (a,b)+1)by omega]
def zxr(P:Program)(t:TypeId):Bool:=
 match mapT P t with
 |some (kt,et)=>keyT P kt (.agg [.str [],.str []])&&(match zaU P et with|some (.int .i64 0)=>true|_=>false)
 |none=>false
theorem keyFs_ss(a b c d:Str)(fs:List Field):zfK P fs [.str a,.str b]=zfK P fs [.str c,.str d]:=by
 have h1:∀(t:TypeId) (a c:Str),zer P t (.str a)=zer P t (.str c):=by intro t a c;unfold zer;split<;>simp_all
 match fs with
 |[]=>rfl
 |[f]=>simp [zfK]
 |[f,f']=>simp only [zfK];rw [h1 f.type a c,h1 f'.type b d]
 |f::f'::f''::r=>simp [zfK]
theorem zqY {t:TypeId}(h:zxr P t=true)(a b:Str):∃ kt et,mapT P t=some (kt,et)∧keyT P kt (.agg [.str a,.str b])=true∧zaU P et=some (.int .i64 0):=by
 unfold zxr at h;split at h
 ·rename_i kt et hm;simp only [Bool.and_eq_true]at h;refine⟨kt,et,hm,?_,?_⟩
  ·have:=h.1;unfold keyT at this ⊢;simp only at this ⊢;split at this
   ·rename_i fs hf;rw [←this];exact keyFs_ss ..
   ·cases this
  ·have:=h.2;split at this
   ·assumption
   ·cases this
 ·cases h
theorem zr0(v:V)(h:Hp)(R W:List Nat):XR.ar H (some ⟨v,h,R,W⟩)=⟨True,v,h,R,W⟩:=rfl
def zqk:=@zaV
def luK(fl:Bool)(o:Option Blk)(b:Nat)(x y:Str)(H:Hp)(orig:Option XR):Option XR:=
 match fl,o with
 |true,some (.mp es _)=>(match zeb (.agg [.str x,.str y]) es 0 with|some (some p)=>some ⟨p.2,H,[b],[]⟩|some none=>some ⟨.int .i64 0,H,[b],[]⟩|none=>orig)
 |_,_=>orig
theorem zv6(t:TypeId)(b:Nat)(x y:Str)(bs:List (Nat×Blk))(n:Nat):zaV P t (.map b) (.agg [.str x,.str y]) false ⟨bs,n⟩=luK (zxr P t) (zaM bs b) b x y ⟨bs,n⟩ (zqk P t (.map b) (.agg [.str x,.str y]) false ⟨bs,n⟩):=by
 unfold luK;split
 ·rename_i es c hf ho;obtain⟨kt,et,h1,h2,h3⟩:=zqY hf x y;have hg:(⟨bs,n⟩:Hp).get b=some (.mp es c):=(zaP bs b).trans ho;split
  ·rename_i p hp;unfold zaV;simp only [h1,h2,h3,hg,hp];rfl
  ·rename_i hp;unfold zaV;simp only [h1,h2,h3,hg,hp];rfl
  ·rfl
 ·rfl
theorem luK_mp(l:List Ent)(c b:Nat)(x y:Str)(orig:Option XR):luK true (some (.mp (mpF 0 l) c)) b x y H orig=some ⟨.int .i64 (val l (x,y)),H,[b],[]⟩:=by
 unfold luK;simp only [zlD];cases h:has l (x,y)with
 |true=>simp
 |false=>simp [(zyr h).2.1]
def lmK(fl:Bool)(o:Option Blk)(b:Nat)(H:Hp)(orig:AR):AR:=
 match fl,o with
 |true,some (.mp es _)=>⟨True,.int .i64 es.length,H,[b],[]⟩
 |_,_=>orig
theorem lmK_mp(es:List (Nat×V×V))(c b:Nat)(orig:AR):lmK true (some (.mp es c)) b H orig=⟨True,.int .i64 es.length,H,[b],[]⟩:=rfl
def rgK(fl:Bool)(o:Option Blk)(b:Nat)(H:Hp)(orig:Option XR):Option XR:=
 match fl,o with
 |true,some (.mp es clock)=>some ⟨.ptr H.next 0,H.new (.it (some b) (es.map (·.1)) (es.map (·.1)) clock clock none),[b],[]⟩
 |_,_=>orig
theorem rgK_mp(es:List (Nat×V×V))(c b:Nat)(orig:Option XR):rgK true (some (.mp es c)) b H orig=some ⟨.ptr H.next 0,H.new (.it (some b) (es.map (·.1)) (es.map (·.1)) c c none),[b],[]⟩:=rfl
def etM(o:Option Blk)(last c b m:Nat)(H:Hp):Option XR:=
 match o with
 |some (.mp es clock)=>(match Nat.beq clock last,zfQ c es with|true,some kv=>some ⟨.tup [kv.1,kv.2],H,[b,m],[]⟩|_,_=>none)
 |_=>none
def etK(o:Option Blk)(bs:List (Nat×Blk))(b:Nat)(H:Hp):Option XR:=
 match o with
 |some (.it (some m) _ _ _ last (some c))=>etM (zaM bs m) last c b m H
 |_=>none
theorem etK_it(m:Nat)(x l:List Nat)(s last c:Nat)(bs:List (Nat×Blk))(b:Nat):etK (some (.it (some m) x l s last (some c))) bs b H=etM (zaM bs m) last c b m H:=rfl
theorem zsF(bs:List (Nat×Blk))(n:Nat):zfo ⟨bs,n⟩=some ⟨.map n,⟨(n,.mp [] 0)::bs,n+1⟩,[],[]⟩:=rfl
theorem zml(t:TypeId)(x k:Operand)(ok:Bool):step1 C P env (.lookup t x k ok) H=mkSR false ((ev env x).cond∧(ev env k).cond) (XR.ar H (zaV P t (ev env x).val (ev env k).val ok H)) H:=zal rfl (by simp [Op.operands,needs]) rfl
theorem zkx(t:TypeId):step1 C P env (.makeMap t none) H=mkSR false True (XR.ar H (zfo H)) H:=zal rfl (by simp [Op.operands,needs]) rfl
theorem zvU(t:TypeId)(x:Operand):step1 C P env (.call { callee:=.builtin .cap,args:=⟨[x]⟩,argTypes:=⟨[t]⟩ }) H=mkSR false (ev env x).cond (XR.ar H (xCap P t (ev env x).val H)) H:=zal rfl (by simp [Op.operands,Call.operands,needs]) rfl
theorem AXw.intro {K:Out→St→Prop}{st:List Fr}{ops:Array Oper}{os:List Oper}{d:Nat}{b m n:Nat}{bs:List (Nat×Blk)}{bs0 left:List Nat}{since last clock:Nat}{cur:Option Nat}{es:List (Nat×V×V)}
 (h1:zaM bs b=some (.it (some m) bs0 left since last cur)) (h2:zaM bs m=some (.mp es clock)) (h3:es.map (·.1)=bs0) (h4:since≤last) (h5:∀ x∈bs0,x<since) (h6:C.nx≤b)
 (k0:(∀ e∈es,left.contains e.1=false)→AXr C P K st ops os ((d,.tup [.bool false])::env) ⟨zll bs b,n⟩)
 (k1:∀ e∈es,left.contains e.1=true→AXr C P K st ops os ((d,.tup [.bool true,e.2.1,e.2.2])::env) ⟨putB bs b (.it (some m) bs0 (left.filter fun n=> !Nat.beq n e.1) since clock (some e.1)),n⟩):
 AXw C P K st ops os (some d) True (.ptr b 0) env ⟨bs,n⟩:=by
 have g1:(⟨bs,n⟩:Hp).get b=_:=(zaP bs b).trans h1
 have g2:(⟨bs,n⟩:Hp).get m=_:=(zaP bs m).trans h2
 have hb:(bs0.all fun n=>Nat.blt n since)=true:=List.all_eq_true.2 fun x hx=>by simpa using h5 x hx
 have hw:wok C [b]=true:=by simp [wok,h6]
 refine⟨trivial,?_⟩
 unfold zkg
 simp only [g1,g2,h3,h4,and_self,decide_true,Bool.true_and,hb]
 cases hf:es.filter fun e=>left.contains e.1 with
 |nil=>
  simp only
  intro q hq
  rw [List.mem_singleton]at hq
  subst hq
  have k0':=k0 fun e he=>?_
  ·rw [←zxN]at k0';exact⟨hw,k0'⟩
  have:e∉es.filter fun e=>left.contains e.1:=by rw [hf];simp
  simp only [List.mem_filter,not_and,Bool.not_eq_true]at this
  exact this he
 |cons e0 l=>
  simp only
  intro q hq
  obtain⟨e,he,rfl⟩:=List.mem_map.1 hq
  rw [←hf]at he
  obtain⟨he1,he2⟩:=List.mem_filter.1 he
  have k1':=k1 e he1 he2
  rw [←put_mk]at k1'
  exact⟨hw,k1'⟩
theorem V.one_cells {x:V}(h:x.one=true):x.cellsV=[x]∧zq x=true:=by
 cases x<;>first|exact⟨rfl,h⟩|(cases h)
def bsL(o:Option (Nat×Value))(l:List V)(H:Hp)(orig:AR):AR:=
 match o with
 |some (s,z)=>if s=1∧zq (cv z)=true∧(cv z).cellsV.length=1∧l.all V.one=true then⟨True,.sl H.next 0 l.length 1 (some l.length),H.new (.cells l),[],[]⟩else orig
 |none=>orig
theorem bsL_some(s:Nat)(z:Value)(l:List V)(orig:AR):bsL (some (s,z)) l H orig=if s=1∧zq (cv z)=true∧(cv z).cellsV.length=1∧l.all V.one=true then⟨True,.sl H.next 0 l.length 1 (some l.length),H.new (.cells l),[],[]⟩else orig:=rfl
theorem ziT(t:TypeId)(a b:V)(bs:List (Nat×Blk))(m:Nat):zY P t 2 [(0,a),(1,b)] ⟨bs,m⟩=bsL (zcl P t) [a,b] ⟨bs,m⟩ (zc7 P t 2 [(0,a),(1,b)] ⟨bs,m⟩):=by
 unfold bsL;split
 ·rename_i s z hb;split
  ·rename_i hc;obtain⟨rfl,h1,h2,h3⟩:=hc;simp only [List.all_cons,List.all_nil,Bool.and_true,Bool.and_eq_true]at h3;obtain⟨a1,a2⟩:=V.one_cells h3.1;obtain⟨b1,b2⟩:=V.one_cells h3.2;unfold zcl at hb;split at hb
   ·rename_i e he;split at hb
    ·rename_i s' z' k1 k2;cases hb;match hz:(cv z).cellsV,h2 with
     |[c],_=>
      have zz:zbe P e 2=[c,c]:=by simp [zbe,k2,hz]
      simp [zY,he,k1,k2,zdQ,a1,a2,b1,b2,zz,hz,h1,putCells,Hp.new]
    ·cases hb
   ·cases hb
  ·rfl
 ·rfl
def bs0K(o:Option (Nat×Value))(H:Hp)(orig:AR):AR:=
 match o with
 |some (s,z)=>if zq (cv z)=true∧(cv z).cellsV.length=s then⟨True,.sl H.next 0 0 s (some 0),H.new (.cells []),[],[]⟩else orig
 |none=>orig
theorem zAa(s:Nat)(z:Value)(orig:AR):bs0K (some (s,z)) H orig=if zq (cv z)=true∧(cv z).cellsV.length=s then⟨True,.sl H.next 0 0 s (some 0),H.new (.cells []),[],[]⟩else orig:=rfl
theorem ziU(t:TypeId)(bs:List (Nat×Blk))(m:Nat):zY P t 0 [] ⟨bs,m⟩=bs0K (zcl P t) ⟨bs,m⟩ (zc7 P t 0 [] ⟨bs,m⟩):=by
 unfold bs0K;split
 ·rename_i s z hb;split
  ·rename_i hc;obtain⟨h1,h2⟩:=hc;unfold zcl at hb;split at hb
   ·rename_i e he;split at hb
    ·rename_i s' z' k1 k2;cases hb;have zz:zbe P e 0=[]:=by simp only [zbe,k2];split<;>simp
     simp [zY,he,k1,k2,zdQ,zz,h1,h2,Hp.new]
    ·cases hb
   ·cases hb
  ·rfl
 ·rfl
def capK(o:Option Nat)(H:Hp)(orig:Option XR):Option XR:=match o with|some _=>some ⟨.int .i64 0,H,[],[]⟩|none=>orig
theorem znK(n:Nat)(orig:Option XR):capK (some n) H orig=some ⟨.int .i64 0,H,[],[]⟩:=rfl
def xCap0:=@xCap
theorem zsI(t:TypeId):xCap P t .nilS H=capK (zbf P t) H (xCap0 P t .nilS H):=by
 cases h:zbf P t with
 |none=>rfl
 |some n=>obtain⟨_,e,h1,h2,_⟩:=zbO (P:=P) (t:=t) (by rw [h];rfl);rw [znK];unfold xCap;simp only [h1]
def srcI:=@zaj
theorem zsE(t:TypeId)(k:IntKind)(n:Int)(sz:Nat):zaj P H t (.int k n) sz=whenI (P.underlying t) none (srcI P H t (.int k n) sz):=by
 cases h:P.underlying t with
 |none=>rfl
 |some d=>
  cases d<;>first|rfl|skip
  unfold zaj;simp only [h];rfl
theorem zvZ(d:AR)(k:List V→Nat→List Nat→AR):srcK none d k=d:=rfl
def gwK(u:Option TypeDesc)(i:Option (Nat×Nat×Bool))(z:Option Value)(n:Int)(H:Hp)(orig:Option XR):Option XR:=
 match u,i,z with
 |some (.int _),some (isz,ib,_),some z=>if zq (cv z)=true∧(cv z).cellsV.length=isz∧0<n∧n≤1000000∧ib≤100000 then some ⟨.sl H.next 0 n.toNat isz none,H.new (.cells (zfl (some z) n.toNat)),[],[]⟩else orig
 |_,_,_=>orig
theorem gwK_some(k:IntKind)(isz ib:Nat)(zok:Bool)(z:Value)(n:Int)(orig:Option XR):gwK (some (.int k)) (some (isz,ib,zok)) (some z) n H orig=
 if zq (cv z)=true∧(cv z).cellsV.length=isz∧0<n∧n≤1000000∧ib≤100000 then some ⟨.sl H.next 0 n.toNat isz none,H.new (.cells (zfl (some z) n.toNat)),[],[]⟩else orig:=rfl
def xGrow0:=@zf4
theorem rl_grow(e xT:TypeId)(k:IntKind)(n:Int):zf4 P e xT .nilS (.int k n) H=gwK (P.underlying xT) (zgV P e) (zaU P e) n H (xGrow0 P e xT .nilS (.int k n) H):=by
 unfold gwK;split
 ·rename_i k' isz ib zok z h1 h2 h3;split
  ·rename_i hc;unfold zf4;simp only [h1,h2,h3,hc,and_self,decide_true];unfold zbe zfl;simp only [h3];rfl
  ·rfl
 ·rfl
def zfh(C:Cfg)(P:Program)(x:Code)(K:Out→St→Prop):List Unit→Out→St→Prop
 |[]=>zgX (fun _=>False) K
 |_::n=>zgX (fun s=>AXf C P x s (zfh C P x K n)) K
theorem zmv:∃ f:Cfg→Program→Code→(Out→St→Prop)→List Unit→Out→St→Prop,f=zfh:=⟨_,rfl⟩
noncomputable def zkb:Cfg→Program→Code→(Out→St→Prop)→List Unit→Out→St→Prop:=Classical.choose zmv
theorem zeN:zkb=zfh:=Classical.choose_spec zmv
end Go.Ab
