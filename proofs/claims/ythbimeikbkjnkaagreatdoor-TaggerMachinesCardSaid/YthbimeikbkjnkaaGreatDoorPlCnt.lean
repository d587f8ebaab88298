/- Lists of counts in their order, and maps of counts; no program in sight. -/
import Derived.Test.YthbimeikbkjnkaaGreatDoorAbSimp2
set_option linter.all false
set_option maxHeartbeats 16000000
set_option maxRecDepth 100000
namespace Go.Cnt
abbrev Str:=List UInt8
abbrev Key:=Str×Str
abbrev Ent:=Key×Int
theorem za0:∀ a:Str,Op.bytesLess a a=false
 |[]=>rfl
 |x::a=>by rw [Op.bytesLess,za0 a];simp
theorem zoF {a b c:UInt8}(h:a<b)(k:b<c):a<c:=by rw [Ya9]at *; omega
theorem u8_tri(a b:UInt8):a<b∨a=b∨b<a:=by
 rcases Ybq a.toNat b.toNat with h|h|h
 ·exact .inl (Ya9.2 h)
 ·exact .inr (.inl (YaW.1 h))
 ·exact .inr (.inr (Ya9.2 h))
theorem zgn(x y:UInt8)(a b:Str):Op.bytesLess (x::a) (y::b)=true↔x<y∨(x=y∧Op.bytesLess a b=true):=by rw [Op.bytesLess];simp
theorem zeK:∀ {a b c:Str},Op.bytesLess a b=true→Op.bytesLess b c=true→Op.bytesLess a c=true
 |_,[],_,h,_=>by simp [Op.bytesLess]at h
 |_,_::_,[],_,k=>by simp [Op.bytesLess]at k
 |[],_::_,_::_,_,_=>rfl
 |x::a,y::b,z::c,h,k=>by
  rw [zgn]at*;rcases h with h|⟨rfl,h⟩<;>rcases k with k|⟨rfl,k⟩
  ·exact .inl (zoF h k)
  ·exact .inl h
  ·exact .inl k
  ·exact .inr ⟨rfl,zeK h k⟩
theorem bl_tri:∀ a b:Str,Op.bytesLess a b=true∨a=b∨Op.bytesLess b a=true
 |[],[]=>.inr (.inl rfl)
 |[],_::_=>.inl rfl
 |_::_,[]=>.inr (.inr rfl)
 |x::a,y::b=>by
  rw [zgn,zgn];rcases u8_tri x y with h|h|h
  ·exact .inl (.inl h)
  ·subst h;rcases bl_tri a b with h|h|h
   ·exact .inl (.inr ⟨rfl,h⟩)
   ·exact .inr (.inl (by rw [h]))
   ·exact .inr (.inr (.inr ⟨rfl,h⟩))
  ·exact .inr (.inr (.inl h))
def lt(x y:Key):Bool:=Op.bytesLess x.1 y.1||(x.1==y.1&&Op.bytesLess x.2 y.2)
theorem lt_iff(x y:Key):lt x y=true↔Op.bytesLess x.1 y.1=true∨(x.1=y.1∧Op.bytesLess x.2 y.2=true):=by simp [lt]
theorem lt_irrefl(x:Key):lt x x=false:=by simp [lt,za0]
def cmpS(a b:Str):Int:=if Op.bytesLess a b=true then -1 else if Op.bytesLess b a=true then 1 else 0
theorem zgi(a b:Str):(Op.bytesLess a b=true∧cmpS a b= -1)∨(a=b∧cmpS a b=0)∨(Op.bytesLess b a=true∧Op.bytesLess a b=false∧cmpS a b=1):=by
 unfold cmpS;rcases bl_tri a b with h|h|h
 ·exact .inl ⟨h,by rw [Yf h]⟩
 ·subst h;exact .inr (.inl ⟨rfl,by simp [za0]⟩)
 ·have h':Op.bytesLess a b=false:=by
   cases e:Op.bytesLess a b with
   |false=>rfl
   |true=>have:=zeK h e;rw [za0]at this;cases this
  exact .inr (.inr ⟨h,h',by rw [h',h];simp⟩)
def val:List Ent→Key→Int
 |[],_=>0
 |e::l,k=>if e.1=k then e.2 else val l k
def upd:List Ent→Ent→List Ent
 |[],x=>[x]
 |e::l,x=>if e.1=x.1 then(e.1,e.2+x.2)::l else e::upd l x
def has:List Ent→Key→Bool
 |[],_=>false
 |e::l,k=>if e.1=k then true else has l k
def pos:List Ent→Key→Nat
 |[],_=>0
 |e::l,k=>if e.1=k then 0 else pos l k+1
def ent:List Ent→Key→List Ent
 |[],k=>[(k,0)]
 |e::l,k=>if e.1=k then e::l else e::ent l k
end Go.Cnt

namespace Go.Ab
open Go.Cnt
variable {P:Program}{C:Cfg}{env:Env}{H:Hp}
def mapSS(P:Program)(t:TypeId):Bool:=
 match mapT P t with
 |some (kt,et)=>keyT P kt (.agg [.str [],.str []])&&(match zaO P et with|some (.int .i64 0)=>true|_=>false)
 |none=>false
theorem keyFs_ss(a b c d:Str)(fs:List Field):zfE P fs [.str a,.str b]=zfE P fs [.str c,.str d]:=by
 have h1:∀(t:TypeId) (a c:Str),zei P t (.str a)=zei P t (.str c):=by intro t a c;unfold zei;split<;>simp_all
 match fs with
 |[]=>rfl
 |[f]=>simp [zfE]
 |[f,f']=>simp only [zfE];rw [h1 f.type a c,h1 f'.type b d]
 |f::f'::f''::r=>simp [zfE]
theorem mapSS_ok {t:TypeId}(h:mapSS P t=true)(a b:Str):∃ kt et,mapT P t=some (kt,et)∧keyT P kt (.agg [.str a,.str b])=true∧zaO P et=some (.int .i64 0):=by
 unfold mapSS at h;split at h
 ·rename_i kt et hm;simp only [Yc]at h;refine⟨kt,et,hm,?_,?_⟩
  ·have:=h.1;unfold keyT at this ⊢;simp only at this ⊢;split at this
   ·rename_i fs hf;rw [←this];exact keyFs_ss ..
   ·cases this
  ·have:=h.2;split at this
   ·assumption
   ·cases this
 ·cases h
theorem zsz(v:V)(h:Hp)(R W:List Nat):XR.ar H (some ⟨v,h,R,W⟩)=⟨True,v,h,R,W⟩:=rfl
def zqR:=@zaP
def luK(fl:Bool)(o:Option Blk)(b:Nat)(x y:Str)(H:Hp)(orig:Option XR):Option XR:=
 match fl,o with
 |true,some (.mp es _)=>(match zcp (.agg [.str x,.str y]) es 0 with|some (some p)=>some ⟨p.2,H,[b],[]⟩|some none=>some ⟨.int .i64 0,H,[b],[]⟩|none=>orig)
 |_,_=>orig
def esK(o:Option (List (Nat×V×V)))(clock b:Nat)(H:Hp):Option XR:=match o with|some es=>some ⟨undefV,H.put b (.mp es clock),[b],[b]⟩|none=>none
def esB(o:Option Blk)(b:Nat)(s:Int)(x:V)(H:Hp):Option XR:=match o with|some (.mp es clock)=>esK (zhD s x es) clock b H|_=>none
def lmK(fl:Bool)(o:Option Blk)(b:Nat)(H:Hp)(orig:AR):AR:=
 match fl,o with
 |true,some (.mp es _)=>⟨True,.int .i64 es.length,H,[b],[]⟩
 |_,_=>orig
theorem lmK_mp(es:List (Nat×V×V))(c b:Nat)(orig:AR):lmK true (some (.mp es c)) b H orig=⟨True,.int .i64 es.length,H,[b],[]⟩:=rfl
def rgK(fl:Bool)(o:Option Blk)(b:Nat)(H:Hp)(orig:Option XR):Option XR:=
 match fl,o with
 |true,some (.mp es clock)=>some ⟨.ptr H.next 0,H.new (.it (some b) (es.map (·.1)) (es.map (·.1)) clock clock none),[b],[]⟩
 |_,_=>orig
theorem rgK_mp(es:List (Nat×V×V))(c b:Nat)(orig:Option XR):rgK true (some (.mp es c)) b H orig=some ⟨.ptr H.next 0,H.new (.it (some b) (es.map (·.1)) (es.map (·.1)) c c none),[b],[]⟩:=rfl
def zox:=@zcB
theorem rl_range(t:TypeId)(b:Nat)(bs:List (Nat×Blk))(n:Nat):zcB P t (.map b) ⟨bs,n⟩=rgK (mapSS P t) (zas bs b) b ⟨bs,n⟩ (zox P t (.map b) ⟨bs,n⟩):=by
 unfold rgK;split
 ·rename_i es c hf ho;obtain⟨kt,et,h1,h2,h3⟩:=mapSS_ok hf [] [];have hg:(⟨bs,n⟩:Hp).get b=some (.mp es c):=(zbg bs b).trans ho;unfold zcB;simp only [h1,hg]
 ·rfl
def etM(o:Option Blk)(last c b m:Nat)(H:Hp):Option XR:=
 match o with
 |some (.mp es clock)=>(match Nat.beq clock last,zcf c es with|true,some kv=>some ⟨.tup [kv.1,kv.2],H,[b,m],[]⟩|_,_=>none)
 |_=>none
def etK(o:Option Blk)(bs:List (Nat×Blk))(b:Nat)(H:Hp):Option XR:=
 match o with
 |some (.it (some m) _ _ _ last (some c))=>etM (zas bs m) last c b m H
 |_=>none
theorem rl_entry(b:Nat)(bs:List (Nat×Blk))(n:Nat):zdU (.ptr b 0) ⟨bs,n⟩=etK (zas bs b) bs b ⟨bs,n⟩:=by
 have e:∀ m,(⟨bs,n⟩:Hp).get m=zas bs m:=zbg bs;unfold zdU etK etM;simp only [e];generalize zas bs b=o;cases o with
 |none=>rfl
 |some x=>
  cases x with
  |it m _ _ _ last cur=>cases m<;>cases cur<;>rfl
  |_=>rfl
theorem etK_it(m:Nat)(x l:List Nat)(s last c:Nat)(bs:List (Nat×Blk))(b:Nat):etK (some (.it (some m) x l s last (some c))) bs b H=etM (zas bs m) last c b m H:=rfl
theorem etM_mp(es:List (Nat×V×V))(clock c b m:Nat)(k v:V)(hf:zcf c es=some (k,v)):etM (some (.mp es clock)) clock c b m H=some ⟨.tup [k,v],H,[b,m],[]⟩:=by unfold etM;simp only [Nat.beq_refl,hf]
theorem zto(bs:List (Nat×Blk))(n:Nat):zff ⟨bs,n⟩=some ⟨.map n,⟨(n,.mp [] 0)::bs,n+1⟩,[],[]⟩:=rfl
theorem zmh(t:TypeId)(x k:Operand)(ok:Bool):step1 C P env (.lookup t x k ok) H=mkSR false ((ev env x).cond∧(ev env k).cond) (XR.ar H (zaP P t (ev env x).val (ev env k).val ok H)) H:=zZ rfl (by simp [Op.operands,needs]) rfl
theorem zkn(t:TypeId):step1 C P env (.makeMap t none) H=mkSR false True (XR.ar H (zff H)) H:=zZ rfl (by simp [Op.operands,needs]) rfl
theorem zoJ(t:TypeId)(x:Operand):step1 C P env (.range t x) H=mkSR false (ev env x).cond (XR.ar H (zcB P t (ev env x).val H)) H:=zZ rfl (by simp [Op.operands,needs]) rfl
theorem zoN(x:Operand):step1 C P env (.entry x) H=mkSR false (ev env x).cond (XR.ar H (zdU (ev env x).val H)) H:=zZ rfl (by simp [Op.operands,needs]) rfl
theorem zwQ(t:TypeId)(x:Operand):step1 C P env (.call { callee:=.builtin .cap,args:=⟨[x]⟩,argTypes:=⟨[t]⟩ }) H=mkSR false (ev env x).cond (XR.ar H (xCap P t (ev env x).val H)) H:=zZ rfl (by simp [Op.operands,Call.operands,needs]) rfl
theorem AXw.intro {K:Out→St→Prop}{st:List Fr}{ops:Array Oper}{os:List Oper}{d:Nat}{b m n:Nat}{bs:List (Nat×Blk)}{bs0 left:List Nat}{since last clock:Nat}{cur:Option Nat}{es:List (Nat×V×V)}
 (h1:zas bs b=some (.it (some m) bs0 left since last cur)) (h2:zas bs m=some (.mp es clock)) (h3:es.map (·.1)=bs0) (h4:since≤last) (h5:∀ x∈bs0,x<since) (h6:C.nx≤b)
 (k0:(∀ e∈es,left.contains e.1=false)→AXr C P K st ops os ((d,.tup [.bool false])::env) ⟨zlh bs b,n⟩)
 (k1:∀ e∈es,left.contains e.1=true→AXr C P K st ops os ((d,.tup [.bool true,e.2.1,e.2.2])::env) ⟨putB bs b (.it (some m) bs0 (left.filter fun n=> !Nat.beq n e.1) since clock (some e.1)),n⟩):
 AXw C P K st ops os (some d) True (.ptr b 0) env ⟨bs,n⟩:=by
 have g1:(⟨bs,n⟩:Hp).get b=_:=(zbg bs b).trans h1
 have g2:(⟨bs,n⟩:Hp).get m=_:=(zbg bs m).trans h2
 have hb:(bs0.all fun n=>Nat.blt n since)=true:=Yg.2 fun x hx=>by simpa using h5 x hx
 have hw:wok C [b]=true:=by simp [wok,h6]
 refine⟨trivial,?_⟩
 unfold zj7
 simp only [g1,g2,h3,h4,YbU,Ybx,Yar,hb]
 cases hf:es.filter fun e=>left.contains e.1 with
 |nil=>
  simp only
  intro q hq
  rw [Yah]at hq
  subst hq
  have k0':=k0 fun e he=>?_
  ·rw [←zyQ]at k0';exact⟨hw,k0'⟩
  have:e∉es.filter fun e=>left.contains e.1:=by rw [hf];simp
  simp only [Yaq,not_and,Ycx]at this
  exact this he
 |cons e0 l=>
  simp only
  intro q hq
  obtain⟨e,he,rfl⟩:=Yab.1 hq
  rw [←hf]at he
  obtain⟨he1,he2⟩:=Yaq.1 he
  have k1':=k1 e he1 he2
  rw [←put_mk]at k1'
  exact⟨hw,k1'⟩
theorem V.one_cells {x:V}(h:x.one=true):x.cellsV=[x]∧zq x=true:=by
 cases x<;>first|exact⟨rfl,h⟩|(cases h)
def bsL(o:Option (Nat×Value))(l:List V)(H:Hp)(orig:AR):AR:=
 match o with
 |some (s,z)=>if s=1∧zq (cv z)=true∧(cv z).cellsV.length=1∧l.all V.one=true then⟨True,.sl H.next 0 l.length 1 (some l.length),H.new (.cells l),[],[]⟩else orig
 |none=>orig
theorem bsL_some(s:Nat)(z:Value)(l:List V)(orig:AR):bsL (some (s,z)) l H orig=if s=1∧zq (cv z)=true∧(cv z).cellsV.length=1∧l.all V.one=true then⟨True,.sl H.next 0 l.length 1 (some l.length),H.new (.cells l),[],[]⟩else orig:=rfl
theorem ziN(t:TypeId)(a b:V)(bs:List (Nat×Blk))(m:Nat):zV P t 2 [(0,a),(1,b)] ⟨bs,m⟩=bsL (zcs P t) [a,b] ⟨bs,m⟩ (zet P t 2 [(0,a),(1,b)] ⟨bs,m⟩):=by
 unfold bsL;split
 ·rename_i s z hb;split
  ·rename_i hc;obtain⟨rfl,h1,h2,h3⟩:=hc;simp only [YbO,YcT,Yaw,Yc]at h3;obtain⟨a1,a2⟩:=V.one_cells h3.1;obtain⟨b1,b2⟩:=V.one_cells h3.2;unfold zcs at hb;split at hb
   ·rename_i e he;split at hb
    ·rename_i s' z' k1 k2;cases hb;match hz:(cv z).cellsV,h2 with
     |[c],_=>
      have zz:zbw P e 2=[c,c]:=by simp [zbw,k2,hz]
      simp [zV,he,k1,k2,zd1,a1,a2,b1,b2,zz,hz,h1,putCells,Hp.new]
    ·cases hb
   ·cases hb
  ·rfl
 ·rfl
def bs0K(o:Option (Nat×Value))(H:Hp)(orig:AR):AR:=
 match o with
 |some (s,z)=>if zq (cv z)=true∧(cv z).cellsV.length=s then⟨True,.sl H.next 0 0 s (some 0),H.new (.cells []),[],[]⟩else orig
 |none=>orig
theorem zBm(s:Nat)(z:Value)(orig:AR):bs0K (some (s,z)) H orig=if zq (cv z)=true∧(cv z).cellsV.length=s then⟨True,.sl H.next 0 0 s (some 0),H.new (.cells []),[],[]⟩else orig:=rfl
def capK(o:Option Nat)(H:Hp)(orig:Option XR):Option XR:=match o with|some _=>some ⟨.int .i64 0,H,[],[]⟩|none=>orig
theorem znH(n:Nat)(orig:Option XR):capK (some n) H orig=some ⟨.int .i64 0,H,[],[]⟩:=rfl
def xCap0:=@xCap
theorem zts(t:TypeId):xCap P t .nilS H=capK (za9 P t) H (xCap0 P t .nilS H):=by
 cases h:za9 P t with
 |none=>rfl
 |some n=>obtain⟨_,e,h1,h2,_⟩:=zbL (P:=P) (t:=t) (by rw [h];rfl);rw [znH];unfold xCap;simp only [h1]
def srcI:=@zad
theorem ztn(t:TypeId)(k:IntKind)(n:Int)(sz:Nat):zad P H t (.int k n) sz=whenI (P.underlying t) none (srcI P H t (.int k n) sz):=by
 cases h:P.underlying t with
 |none=>rfl
 |some d=>
  cases d<;>first|rfl|skip
  unfold zad;simp only [h];rfl
theorem zwZ(d:AR)(k:List V→Nat→List Nat→AR):srcK none d k=d:=rfl
def gwK(u:Option TypeDesc)(i:Option (Nat×Nat×Bool))(z:Option Value)(n:Int)(H:Hp)(orig:Option XR):Option XR:=
 match u,i,z with
 |some (.int _),some (isz,ib,_),some z=>if zq (cv z)=true∧(cv z).cellsV.length=isz∧0<n∧n≤1000000∧ib≤100000 then some ⟨.sl H.next 0 n.toNat isz none,H.new (.cells (zcT (some z) n.toNat)),[],[]⟩else orig
 |_,_,_=>orig
theorem gwK_some(k:IntKind)(isz ib:Nat)(zok:Bool)(z:Value)(n:Int)(orig:Option XR):gwK (some (.int k)) (some (isz,ib,zok)) (some z) n H orig=
 if zq (cv z)=true∧(cv z).cellsV.length=isz∧0<n∧n≤1000000∧ib≤100000 then some ⟨.sl H.next 0 n.toNat isz none,H.new (.cells (zcT (some z) n.toNat)),[],[]⟩else orig:=rfl
def xGrow0:=@zfU
theorem rl_grow(e xT:TypeId)(k:IntKind)(n:Int):zfU P e xT .nilS (.int k n) H=gwK (P.underlying xT) (zgM P e) (zaO P e) n H (xGrow0 P e xT .nilS (.int k n) H):=by
 unfold gwK;split
 ·rename_i k' isz ib zok z h1 h2 h3;split
  ·rename_i hc;unfold zfU;simp only [h1,h2,h3,hc,YbU,Ybx];unfold zbw zcT;simp only [h3];rfl
  ·rfl
 ·rfl
def zgr(C:Cfg)(P:Program)(x:Code)(K:Out→St→Prop):List Unit→Out→St→Prop
 |[]=>zgs (fun _=>False) K
 |_::n=>zgs (fun s=>AXf C P x s (zgr C P x K n)) K
theorem zmt:∃ f:Cfg→Program→Code→(Out→St→Prop)→List Unit→Out→St→Prop,f=zgr:=⟨_,rfl⟩
noncomputable def zop:Cfg→Program→Code→(Out→St→Prop)→List Unit→Out→St→Prop:=Classical.choose zmt
theorem zf2:zop=zgr:=YaZ zmt
end Go.Ab
