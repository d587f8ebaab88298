/- Lists of counts in their order, and maps of counts; no program in sight. -/
import Derived.Test.YtbdlfegfepggnaaGreatDoorAbSimp2
set_option linter.all false
set_option maxHeartbeats 16000000
set_option maxRecDepth 100000
noncomputable section
namespace Go.Cnt
abbrev Str:=ZL
abbrev Key:=Str×Str
abbrev Ent:=Key×Int
def zcV:∀a:Str,Op.bytesLess a a=false
 |[]=>rfl
 |x::a=>by rw[Op.bytesLess,zcV a];simp
def zm5 {a b c:UInt8}(h:a<b)(k:b<c):a<c:=by rw[Yb1]at *; omega
def u8_tri(a b:UInt8):a<b∨a=b∨b<a:=by
 rcases Ya5 a.toNat b.toNat with h|h|h
 ·exact .inl (Yb1.2 h)
 ·exact .inr (.inl (YbB.1 h))
 exact .inr (.inr (Yb1.2 h))
def zkE(x y:UInt8)(a b:Str):Op.bytesLess (x::a) (y::b)=true↔x<y∨(x=y∧Op.bytesLess a b=true):=by rw[Op.bytesLess];simp
def zfb:∀ {a b c:Str},Op.bytesLess a b=true→Op.bytesLess b c=true→Op.bytesLess a c=true
 |_,[],_,h,_=>by simp[Op.bytesLess]at h
 |_,_::_,[],_,k=>by simp[Op.bytesLess]at k
 |[],_::_,_::_,_,_=>rfl
 |x::a,y::b,z::c,h,k=>by
  rw[zkE]at*;rcases h with h|⟨rfl,h⟩<;>rcases k with k|⟨rfl,k⟩
  ·exact .inl (zm5 h k)
  ·exact .inl h
  ·exact .inl k
  exact .inr ⟨rfl,zfb h k⟩
def zmE:∀a b:Str,Op.bytesLess a b=true∨a=b∨Op.bytesLess b a=true
 |[],[]=>.inr (.inl rfl)
 |[],_::_=>.inl rfl
 |_::_,[]=>.inr (.inr rfl)
 |x::a,y::b=>by
  rw[zkE,zkE];rcases u8_tri x y with h|h|h
  ·exact .inl (.inl h)
  ·subst h;rcases zmE a b with h|h|h
   ·exact .inl (.inr ⟨rfl,h⟩)
   ·exact .inr (.inl (by rw[h]))
   exact .inr (.inr (.inr ⟨rfl,h⟩))
  exact .inr (.inr (.inl h))
def lt(x y:Key):Bool:=Op.bytesLess x.1 y.1||(x.1==y.1&&Op.bytesLess x.2 y.2)
def lt_iff(x y:Key):lt x y=true↔Op.bytesLess x.1 y.1=true∨(x.1=y.1∧Op.bytesLess x.2 y.2=true):=by simp[lt]
def lt_irrefl(x:Key):lt x x=false:=by simp[lt,zcV]
def val:List Ent→Key→Int
 |[],_=>0
 |e::l,k=>if e.1=k then e.2 else val l k
def upd:List Ent→Ent→List Ent
 |[],x=>[x]
 |e::l,x=>if e.1=x.1 then(e.1,e.2+x.2)::l else e::upd l x
def has:List Ent→Key→Bool
 |[],_=>false
 |e::l,k=>if e.1=k then true else has l k
def pos:List Ent→Key→Nat
 |[],_=>0
 |e::l,k=>if e.1=k then 0 else pos l k+1
def ent:List Ent→Key→List Ent
 |[],k=>[(k,0)]
 |e::l,k=>if e.1=k then e::l else e::ent l k
end Go.Cnt

namespace Go.Ab
open Go.Cnt
variable {P:Program}{C:Cfg}{env:Env}{H:Hp}
def mapSS(P:Program)(t:TypeId):Bool:=
 match mapT P t with
 |some (kt,et)=>keyT P kt (.agg [.str [],.str []])&&(match zaw P et with|some (.int .i64 0)=>true|_=>false)
 |none=>false
def keyFs_ss(a b c d:Str)(fs:List Field):zeZ P fs [.str a,.str b]=zeZ P fs [.str c,.str d]:=by
 have h1:∀(t:TypeId)(a c:Str),zdJ P t (.str a)=zdJ P t (.str c):=by intro t a c;unfold zdJ;split<;>simp_all
 match fs with
 |[]=>rfl
 |[f]=>simp[zeZ]
 |[f,f']=>simp only[zeZ];rw[h1 f.type a c,h1 f'.type b d]
 |f::f'::f''::r=>simp[zeZ]
def mapSS_ok {t:TypeId}(h:mapSS P t=true)(a b:Str):∃kt et,mapT P t=some (kt,et)∧keyT P kt (.agg [.str a,.str b])=true∧zaw P et=some (.int .i64 0):=by
 unfold mapSS at h;split at h
 ·rename_i kt et hm;simp only[Yj]at h;refine⟨kt,et,hm,?_,?_⟩
  ·have:=h.1;unfold keyT at this ⊢;simp only at this ⊢;split at this
   ·rename_i fs hf;rw[←this];exact keyFs_ss ..
   cases this
  have:=h.2;split at this
  ·assumption
  cases this
 cases h
theorem zqG(v:V)(h:Hp)(R W:ZN):XR.ar H (some ⟨v,h,R,W⟩)=⟨True,v,h,R,W⟩:=rfl
def xLookup0:=@zbu
def luK(fl:Bool)(o:Option Blk)(b:Nat)(x y:Str)(H:Hp)(orig:Option XR):Option XR:=
 match fl,o with
 |true,some (.mp es _)=>(match zes (.agg [.str x,.str y]) es 0 with|some (some p)=>some ⟨p.2,H,[b],[]⟩|some none=>some ⟨.int .i64 0,H,[b],[]⟩|none=>orig)
 |_,_=>orig
def lmK(fl:Bool)(o:Option Blk)(b:Nat)(H:Hp)(orig:AR):AR:=
 match fl,o with
 |true,some (.mp es _)=>⟨True,.int .i64 es.length,H,[b],[]⟩
 |_,_=>orig
theorem lmK_mp(es:List (Nat×V×V))(c b:Nat)(orig:AR):lmK true (some (.mp es c)) b H orig=⟨True,.int .i64 es.length,H,[b],[]⟩:=rfl
def aLenM:=@aLen
def zrm(t:TypeId)(b:Nat)(bs:ZH)(n:Nat):aLen P t (.map b) ⟨bs,n⟩=lmK (mapSS P t) (zG bs b) b ⟨bs,n⟩ (aLenM P t (.map b) ⟨bs,n⟩):=by
 unfold lmK;split
 ·rename_i es c hf ho;obtain⟨kt,et,h1,h2,h3⟩:=mapSS_ok hf [] [];have hg:(⟨bs,n⟩:Hp).get b=some (.mp es c):=(zC bs b).trans ho;unfold mapT at h1;split at h1
  ·rename_i k e hu;unfold aLen;simp only[hu,hg]
  cases h1
 rfl
def rgK(fl:Bool)(o:Option Blk)(b:Nat)(H:Hp)(orig:Option XR):Option XR:=
 match fl,o with
 |true,some (.mp es clock)=>some ⟨.ptr H.next 0,H.new (.it (some b) (es.map (·.1)) (es.map (·.1)) clock clock none),[b],[]⟩
 |_,_=>orig
theorem rgK_mp(es:List (Nat×V×V))(c b:Nat)(orig:Option XR):rgK true (some (.mp es c)) b H orig=some ⟨.ptr H.next 0,H.new (.it (some b) (es.map (·.1)) (es.map (·.1)) c c none),[b],[]⟩:=rfl
def etM(o:Option Blk)(last c b m:Nat)(H:Hp):Option XR:=
 match o with
 |some (.mp es clock)=>(match Nat.beq clock last,ze2 c es with|true,some kv=>some ⟨.tup [kv.1,kv.2],H,[b,m],[]⟩|_,_=>none)
 |_=>none
def etK(o:Option Blk)(bs:ZH)(b:Nat)(H:Hp):Option XR:=
 match o with
 |some (.it (some m) _ _ _ last (some c))=>etM (zG bs m) last c b m H
 |_=>none
theorem etK_it(m:Nat)(x l:ZN)(s last c:Nat)(bs:ZH)(b:Nat):etK (some (.it (some m) x l s last (some c))) bs b H=etM (zG bs m) last c b m H:=rfl
theorem zrj(bs:ZH)(n:Nat):zdW ⟨bs,n⟩=some ⟨.map n,⟨(n,.mp [] 0)::bs,n+1⟩,[],[]⟩:=rfl
def zk7(t:TypeId)(x k:Operand)(ok:Bool):step1 C P env (.lookup t x k ok) H=mkSR false ((ev env x).cond∧(ev env k).cond) (XR.ar H (zbu P t (ev env x).val (ev env k).val ok H)) H:=zZ rfl (by simp[Op.operands,needs]) rfl
def zjm(t:TypeId):step1 C P env (.makeMap t none) H=mkSR false True (XR.ar H (zdW H)) H:=zZ rfl (by simp[Op.operands,needs]) rfl
def zhQ(t:TypeId)(x:Operand):step1 C P env (.makeMap t (some x)) H=mkSR false (ev env x).cond (XR.ar H (zbj P t (ev env x).val H)) H:=zZ rfl (by simp[Op.operands,needs]) rfl
def zne(x:Operand):step1 C P env (.next x true) H=mkSR false (ev env x).cond (XR.ar H (zea (ev env x).val H)) H:=zZ rfl (by simp[Op.operands,needs]) rfl
def xnK(o:Option Blk)(b:Nat)(H:Hp):Option XR:=match o with|some (.si s pos)=>if pos<s.length then some ⟨.tup [.bool true,.int .i64 pos,.int .i32 (dec8 s pos).1],H.put b (.si s (pos+(dec8 s pos).2)),[b],[b]⟩else some ⟨.tup [.bool false],H,[b],[]⟩|_=>none
def zqI(b:Nat)(bs:ZH)(n:Nat):zea (.ptr b 0) ⟨bs,n⟩=xnK (zG bs b) b ⟨bs,n⟩:=by rw[←zbF bs n b];rfl
def xnK_go(s:ZL)(pos b:Nat)(H:Hp)(h:pos<s.length):xnK (some (.si s pos)) b H=some ⟨.tup [.bool true,.int .i64 pos,.int .i32 (dec8 s pos).1],H.put b (.si s (pos+(dec8 s pos).2)),[b],[b]⟩:=Yi h
def xnK_end(s:ZL)(pos b:Nat)(H:Hp)(h:¬pos<s.length):xnK (some (.si s pos)) b H=some ⟨.tup [.bool false],H,[b],[]⟩:=Ye h
def rnb_si {π:Nat→Nat}{N:Nat→Prop}(s s':ZL)(p p':Nat):RnB π N (.si s p) (.si s' p')↔s=s'∧p=p':=⟨fun h=>by cases h;exact⟨rfl,rfl⟩,fun⟨h1,h2⟩=>by subst h1 h2;exact .si⟩
def znc(t:TypeId)(x:Operand):step1 C P env (.range t x) H=mkSR false (ev env x).cond (XR.ar H (zdm P t (ev env x).val H)) H:=zZ rfl (by simp[Op.operands,needs]) rfl
def AXw.intro {K:Out→St→Prop}{st:List Fr}{ops:Array Oper}{os:List Oper}{d:Nat}{b m n:Nat}{bs:ZH}{bs0 left:ZN}{since last clock:Nat}{cur:Option Nat}{es:List (Nat×V×V)} (h1:zG bs b=some (.it (some m) bs0 left since last cur)) (h2:zG bs m=some (.mp es clock)) (h3:es.map (·.1)=bs0) (h4:since≤last) (h5:∀x∈bs0,x<since) (h6:C.nx≤b) (k0:(∀e∈es,left.contains e.1=false)→AXr C P K st ops os ((d,.tup [.bool false])::env) ⟨zj7 bs b,n⟩) (k1:∀e∈es,left.contains e.1=true→AXr C P K st ops os ((d,.tup [.bool true,e.2.1,e.2.2])::env) ⟨putB bs b (.it (some m) bs0 (left.filter fun n=> !Nat.beq n e.1) since clock (some e.1)),n⟩):AXw C P K st ops os (some d) True (.ptr b 0) env ⟨bs,n⟩:=by
 have g1:(⟨bs,n⟩:Hp).get b=_:=(zC bs b).trans h1;have g2:(⟨bs,n⟩:Hp).get m=_:=(zC bs m).trans h2;have hb:(bs0.all fun n=>Nat.blt n since)=true:=Yl.2 fun x hx=>by simpa using h5 x hx
 have hw:wok C [b]=true:=by simp[wok,h6]
 refine⟨trivial,?_⟩;unfold zqJ;simp only[g1,g2,h3,h4,Yco,Yb6,Yau,hb];cases hf:es.filter fun e=>left.contains e.1 with
 |nil=>
  simp only;intro q hq;rw[YB]at hq;subst hq;have k0':=k0 fun e he=>?_
  ·rw[←zvV]at k0';exact⟨hw,k0'⟩
  have:e∉es.filter fun e=>left.contains e.1:=by rw[hf];simp
  simp only[YaH,not_and,Yci]at this;exact this he
 |cons e0 l=>simp only;intro q hq;obtain⟨e,he,rfl⟩:=YZ.1 hq;rw[←hf]at he;obtain⟨he1,he2⟩:=YaH.1 he;have k1':=k1 e he1 he2;rw[←put_mk]at k1';exact⟨hw,k1'⟩
def V.one_cells {x:V}(h:x.one=true):x.cellsV=[x]∧zt x=true:=by
 cases x<;>first|exact⟨rfl,h⟩|(cases h)
def bsL(o:Option (Nat×Value))(l:ZA)(H:Hp)(orig:AR):AR:=
 match o with
 |some (s,z)=>if s=1∧zt (cv z)=true∧(cv z).cellsV.length=1∧l.all V.one=true then⟨True,.sl H.next 0 l.length 1 (some l.length),H.new (.cells l),[],[]⟩else orig
 |none=>orig
theorem bsL_some(s:Nat)(z:Value)(l:ZA)(orig:AR):bsL (some (s,z)) l H orig=if s=1∧zt (cv z)=true∧(cv z).cellsV.length=1∧l.all V.one=true then⟨True,.sl H.next 0 l.length 1 (some l.length),H.new (.cells l),[],[]⟩else orig:=rfl
def zhU(t:TypeId)(a b:V)(bs:ZH)(m:Nat):zS P t 2 [(0,a),(1,b)] ⟨bs,m⟩=bsL (zcj P t) [a,b] ⟨bs,m⟩ (zcs P t 2 [(0,a),(1,b)] ⟨bs,m⟩):=by
 unfold bsL;split
 ·rename_i s z hb;split
  ·rename_i hc;obtain⟨rfl,h1,h2,h3⟩:=hc;simp only[Ybg,Ycr,Yav,Yj]at h3;obtain⟨a1,a2⟩:=V.one_cells h3.1;obtain⟨b1,b2⟩:=V.one_cells h3.2;unfold zcj at hb;split at hb
   ·rename_i e he;split at hb
    ·rename_i s' z' k1 k2;cases hb;match hz:(cv z).cellsV,h2 with
     |[c],_=>
      have zz:zbe P e 2=[c,c]:=by simp[zbe,k2,hz]
      simp[zS,he,k1,k2,zdd,a1,a2,b1,b2,zz,hz,h1,putCells,Hp.new]
    cases hb
   cases hb
  rfl
 rfl
def zhS(t:TypeId)(a b c d:V)(bs:ZH)(m:Nat):zS P t 4 [(0,a),(1,b),(2,c),(3,d)] ⟨bs,m⟩=bsL (zcj P t) [a,b,c,d] ⟨bs,m⟩ (zcs P t 4 [(0,a),(1,b),(2,c),(3,d)] ⟨bs,m⟩):=by
 unfold bsL;split
 ·rename_i s z hb;split
  ·rename_i hc;obtain⟨rfl,h1,h2,h3⟩:=hc;simp only[Ybg,Ycr,Yav,Yj]at h3;obtain⟨a1,a2⟩:=V.one_cells h3.1;obtain⟨b1,b2⟩:=V.one_cells h3.2.1;obtain⟨c1,c2⟩:=V.one_cells h3.2.2.1;obtain⟨d1,d2⟩:=V.one_cells h3.2.2.2;unfold zcj at hb;split at hb
   ·rename_i e he;split at hb
    ·rename_i s' z' k1 k2;cases hb;match hz:(cv z).cellsV,h2 with
     |[y],_=>
      have zz:zbe P e 4=[y,y,y,y]:=by simp[zbe,k2,hz]
      simp[zS,he,k1,k2,zdd,a1,a2,b1,b2,c1,c2,d1,d2,zz,hz,h1,putCells,Hp.new]
    cases hb
   cases hb
  rfl
 rfl
def bs0K(o:Option (Nat×Value))(H:Hp)(orig:AR):AR:=
 match o with
 |some (s,z)=>if zt (cv z)=true∧(cv z).cellsV.length=s then⟨True,.sl H.next 0 0 s (some 0),H.new (.cells []),[],[]⟩else orig
 |none=>orig
theorem zx0(s:Nat)(z:Value)(orig:AR):bs0K (some (s,z)) H orig=if zt (cv z)=true∧(cv z).cellsV.length=s then⟨True,.sl H.next 0 0 s (some 0),H.new (.cells []),[],[]⟩else orig:=rfl
def capK(o:Option Nat)(H:Hp)(orig:Option XR):Option XR:=match o with|some _=>some ⟨.int .i64 0,H,[],[]⟩|none=>orig
theorem zw7(n:Nat)(orig:Option XR):capK (some n) H orig=some ⟨.int .i64 0,H,[],[]⟩:=rfl
theorem zt8(d:AR)(k:ZA→Nat→ZN→AR):srcK none d k=d:=rfl
def gwK(u:Option TypeDesc)(i:Option (Nat×Nat×Bool))(z:Option Value)(n:Int)(H:Hp)(orig:Option XR):Option XR:=
 match u,i,z with
 |some (.int _),some (isz,ib,_),some z=>if zt (cv z)=true∧(cv z).cellsV.length=isz∧0<n∧n≤1000000∧ib≤100000 then some ⟨.sl H.next 0 n.toNat isz none,H.new (.cells (zgk (some z) n.toNat)),[],[]⟩else orig
 |_,_,_=>orig
theorem gwK_some(k:IntKind)(isz ib:Nat)(zok:Bool)(z:Value)(n:Int)(orig:Option XR):gwK (some (.int k)) (some (isz,ib,zok)) (some z) n H orig=if zt (cv z)=true∧(cv z).cellsV.length=isz∧0<n∧n≤1000000∧ib≤100000 then some ⟨.sl H.next 0 n.toNat isz none,H.new (.cells (zgk (some z) n.toNat)),[],[]⟩else orig:=rfl
end Go.Ab
