/- How simp is to walk: small rewrite rules, one an operation; what is looked into first, what is left alone. -/
import Derived.Test.YtbdlfegfepggnaaGreatDoorAbCall
import Derived.Tactics
set_option linter.all false
set_option maxHeartbeats 16000000
set_option maxRecDepth 100000
noncomputable section
namespace Go.Ab
variable {C:Cfg}{P:Program}
def zdG:Env→Nat→V
 |[],_=>.any
 |(k,v)::r,t=>bif t==k then v else zdG r t
theorem zvz(t:Nat):zdG [] t=.any:=rfl
theorem ziE(k:Nat)(v:V)(r:Env)(t:Nat):zdG ((k,v)::r) t=bif t==k then v else zdG r t:=rfl
def zdb:∀(env:Env)(t:Nat),(env.lookup t).getD .any=zdG env t
 |[],_=>rfl
 |(k,v)::r,t=>by rw[YE,ziE,←zdb r t];cases t==k<;>rfl
def ev_tmp(env:Env)(t:Nat):ev env (.tmp t)=zdG env t:=zdb env t
theorem ev_const(env:Env)(v:Value):ev env (.const v)=cv v:=rfl
theorem ev_func(env:Env)(f:FuncId):ev env (.func f)=.fn f []:=rfl
theorem zww(env:Env)(k:Nat):ev env (.global k)=(match GL k with|some cs=>.fp cs|none=>.any):=rfl
theorem cv_bool(b:Bool):cv (.bool b)=.bool b:=rfl
theorem cv_int(k:IntKind)(n:Int):cv (.int k n)=.int k n:=rfl
theorem cv_str(l:ZL):cv (.string ⟨l.toArray⟩)=.str l:=rfl
theorem cv_nilS:cv (.slice none 0 0)=.nilS:=rfl
theorem cv_nilP:cv (.pointer none)=.nilP:=rfl
theorem cv_nilM:cv (.map none)=.nilM:=rfl
theorem cv_nilF:cv .nilFunc=.nilF:=rfl
theorem cv_nilI:cv .nilIface=.nilI:=rfl
theorem cv_agg(cs:List Value):cv (.agg cs.toArray)=.agg (cs.map cv1):=rfl
theorem cv_tup(cs:List Value):cv (.tuple cs.toArray)=.tup (cs.map cv1):=rfl
theorem cv1_bool(b:Bool):cv1 (.bool b)=.bool b:=rfl
theorem cv1_int(k:IntKind)(n:Int):cv1 (.int k n)=.int k n:=rfl
theorem cv1_str(l:ZL):cv1 (.string ⟨l.toArray⟩)=.str l:=rfl
theorem cv1_nilS:cv1 (.slice none 0 0)=.nilS:=rfl
theorem cv1_nilP:cv1 (.pointer none)=.nilP:=rfl
theorem cv1_nilM:cv1 (.map none)=.nilM:=rfl
theorem cv1_nilF:cv1 .nilFunc=.nilF:=rfl
theorem cv1_nilI:cv1 .nilIface=.nilI:=rfl
theorem vc_bool(b:Bool):V.cond (.bool b)=True:=rfl
theorem vc_int(k:IntKind)(n:Int):V.cond (.int k n)=True:=rfl
theorem vc_str(l:ZL):V.cond (.str l)=True:=rfl
theorem vc_nilS:V.cond .nilS=True:=rfl
theorem vc_sl(b o l s:Nat)(k:Option Nat):V.cond (.sl b o l s k)=True:=rfl
theorem vc_fs(cs:ZA)(n:Nat):V.cond (.fs cs n)=True:=rfl
theorem vc_nilP:V.cond .nilP=True:=rfl
theorem vc_ptr(b o:Nat):V.cond (.ptr b o)=True:=rfl
theorem vc_fp(cs:ZA):V.cond (.fp cs)=True:=rfl
theorem vc_nilM:V.cond .nilM=True:=rfl
theorem vc_map(b:Nat):V.cond (.map b)=True:=rfl
theorem vc_fn(f:FuncId)(cs:ZA):V.cond (.fn f cs)=True:=rfl
theorem vc_nilF:V.cond .nilF=True:=rfl
theorem vc_ifc(t:TypeId)(v:V):V.cond (.ifc t v)=True:=rfl
theorem vc_nilI:V.cond .nilI=True:=rfl
theorem vc_agg(cs:ZA):V.cond (.agg cs)=True:=rfl
theorem vc_tup(cs:ZA):V.cond (.tup cs)=True:=rfl
theorem vc_any:V.cond .any=True:=rfl
theorem vc_opt(b:Bool)(v:V):V.cond (.opt b v)=(b=true):=rfl
theorem vv_bool(b:Bool):V.val (.bool b)=.bool b:=rfl
theorem vv_int(k:IntKind)(n:Int):V.val (.int k n)=.int k n:=rfl
theorem vv_str(l:ZL):V.val (.str l)=.str l:=rfl
theorem vv_nilS:V.val .nilS=.nilS:=rfl
theorem vv_sl(b o l s:Nat)(k:Option Nat):V.val (.sl b o l s k)=.sl b o l s k:=rfl
theorem vv_fs(cs:ZA)(n:Nat):V.val (.fs cs n)=.fs cs n:=rfl
theorem vv_nilP:V.val .nilP=.nilP:=rfl
theorem vv_ptr(b o:Nat):V.val (.ptr b o)=.ptr b o:=rfl
theorem vv_fp(cs:ZA):V.val (.fp cs)=.fp cs:=rfl
theorem vv_nilM:V.val .nilM=.nilM:=rfl
theorem vv_map(b:Nat):V.val (.map b)=.map b:=rfl
theorem vv_fn(f:FuncId)(cs:ZA):V.val (.fn f cs)=.fn f cs:=rfl
theorem vv_nilF:V.val .nilF=.nilF:=rfl
theorem vv_ifc(t:TypeId)(v:V):V.val (.ifc t v)=.ifc t v:=rfl
theorem vv_nilI:V.val .nilI=.nilI:=rfl
theorem vv_agg(cs:ZA):V.val (.agg cs)=.agg cs:=rfl
theorem vv_tup(cs:ZA):V.val (.tup cs)=.tup cs:=rfl
theorem vv_any:V.val .any=.any:=rfl
theorem vv_opt(b:Bool)(v:V):V.val (.opt b v)=v:=rfl
def delE(t:Nat)(env:Env):Env:=env.filter fun p=>p.1 != t
theorem delE_nil(t:Nat):delE t []=[]:=rfl
def zwG(t k:Nat)(v:V)(r:Env):delE t ((k,v)::r)=bif k==t then delE t r else(k,v)::delE t r:=by
 unfold delE;rw[YaN];by_cases h:k=t
 ·subst h;simp
 have h1:(k==t)=false:=by simp[h]
 have h2:(k != t)=true:=by simp[h]
 simp[h1];intro e;exact absurd e h
theorem ztK(keep:Nat→Bool):zb7 keep []=[]:=rfl
def zqX(keep:Nat→Bool)(t:Nat)(v:V)(r:Env):zb7 keep ((t,v)::r)=bif keep t then(t,v)::delE t (zb7 keep r)else zb7 keep r:=by rw[zb7];cases keep t<;>rfl
def za2:ZN→Nat→Bool
 |[],_=>false
 |k::r,t=>(t==k)||za2 r t
theorem zvZ(t:Nat):za2 [] t=false:=rfl
theorem zr4(k:Nat)(r:ZN)(t:Nat):za2 (k::r) t=((t==k)||za2 r t):=rfl
theorem trim_mk(keep:Nat→Bool)(env:Env)(h:Hp):St.trim ⟨env,h⟩ keep=⟨zb7 keep env,h⟩:=rfl
def zG:ZH→Nat→Option Blk
 |[],_=>none
 |(k,x)::r,b=>bif b==k then some x else zG r b
theorem zvA(b:Nat):zG [] b=none:=rfl
theorem ziF(k:Nat)(x:Blk)(r:ZH)(b:Nat):zG ((k,x)::r) b=bif b==k then some x else zG r b:=rfl
def zC:∀(bs:ZH)(b:Nat),bs.lookup b=zG bs b
 |[],_=>rfl
 |(k,v)::r,b=>by rw[YE,ziF,←zC r b];cases b==k<;>rfl
def zbF(bs:ZH)(n b:Nat):Hp.get ⟨bs,n⟩ b=zG bs b:=zC bs b
def putB:ZH→Nat→Blk→ZH
 |[],_,_=>[]
 |(k,y)::r,b,x=>(bif k==b then(k,x)else(k,y))::putB r b x
theorem putB_nil(b:Nat)(x:Blk):putB [] b x=[]:=rfl
theorem zlx(k:Nat)(y:Blk)(r:ZH)(b:Nat)(x:Blk):putB ((k,y)::r) b x=(bif k==b then(k,x)else(k,y))::putB r b x:=rfl
def zuO:∀(bs:ZH)(b:Nat)(x:Blk),(bs.map fun p=>if p.1==b then(p.1,x)else p)=putB bs b x
 |[],_,_=>rfl
 |(k,v)::r,b,x=>by rw[Y7,zlx,zuO r b x];cases h:k==b<;>simp_all
def put_mk(bs:ZH)(n b:Nat)(x:Blk):Hp.put ⟨bs,n⟩ b x=⟨putB bs b x,n⟩:=by rw[←zuO];rfl
def zj7:ZH→Nat→ZH
 |[],_=>[]
 |(k,y)::r,b=>bif k==b then zj7 r b else(k,y)::zj7 r b
theorem zvW(b:Nat):zj7 [] b=[]:=rfl
theorem ziJ(k:Nat)(y:Blk)(r:ZH)(b:Nat):zj7 ((k,y)::r) b=bif k==b then zj7 r b else(k,y)::zj7 r b:=rfl
def zpR:∀(bs:ZH)(b:Nat),(bs.filter fun p=>p.1 != b)=zj7 bs b
 |[],_=>rfl
 |(k,v)::r,b=>by rw[YaN,ziJ,←zpR r b];cases h:k==b<;>simp_all
def zvV(bs:ZH)(n b:Nat):Hp.kill ⟨bs,n⟩ b=⟨zj7 bs b,n⟩:=by rw[←zpR];rfl
theorem new_mk(bs:ZH)(n:Nat)(x:Blk):Hp.new ⟨bs,n⟩ x=⟨(n,x)::bs,n+1⟩:=rfl
inductive Fr where
 |seq (y:Code)
 |sem (y:Code)
 |block (id:Nat)
def unst(C:Cfg)(P:Program)(K:Out→St→Prop):List Fr→Out→St→Prop
 |[]=>K
 | .seq y::st=>zkP (fun s=>AXf C P y s (unst C P K st)) (unst C P K st)
 | .sem y::st=>zkP (fun s=>AX C P y s (unst C P K st)) (unst C P K st)
 | .block i::st=>zqC i (unst C P K st)
def zcC(K:Out→St→Prop)(v:V)(s:St):∀st,unst C P K st (.panic v) s=K (.panic v) s
 |[]=>rfl
 | .seq _::st=>zcC K v s st
 | .sem _::st=>zcC K v s st
 | .block _::st=>zcC K v s st
def AXs(C:Cfg)(P:Program)(K:Out→St→Prop)(st:List Fr)(c:Code)(env:Env)(h:Hp):Prop:=AXf C P c ⟨env,h⟩ (unst C P K st)
def AXc(C:Cfg)(P:Program)(K:Out→St→Prop)(st:List Fr)(x y:Code)(b:V)(env:Env)(h:Hp):Prop:=
 match b with
 | .bool b=>if b=true then AXs C P K st x env h else AXs C P K st y env h
 |_=>False
def AXt(C:Cfg)(P:Program)(K:Out→St→Prop)(st:List Fr)(env:Env)(h:Hp):Prop:=AXs C P K st .skip env h
def AXr(C:Cfg)(P:Program)(K:Out→St→Prop)(st:List Fr)(ops:Array Oper)(os:List Oper)(env:Env)(h:Hp):Prop:=ARun C P ops os ⟨env,h⟩ (zb1 C.keep (unst C P K st))
def AXf1(C:Cfg)(P:Program)(K:Out→St→Prop)(st:List Fr)(ops:Array Oper)(os:List Oper)(d:Option Tmp)(r:SR)(env:Env)(h:Hp):Prop:=
 fol C r (fun v h' _=>ARun C P ops os (((⟨env,h⟩:St).put d v).hp h') (zb1 C.keep (unst C P K st))) (fun v=>zb1 C.keep (unst C P K st) (.panic v) ⟨env,h⟩)
def AXg1(C:Cfg)(P:Program)(K:Out→St→Prop)(st:List Fr)(ops:Array Oper)(os:List Oper)(d:Option Tmp)(gb:Option Bool)(r:SR)(env:Env)(h:Hp):Prop:=
 match gb with
 |some gb=>folG C gb r h (fun v h' _=>ARun C P ops os (((⟨env,h⟩:St).put d v).hp h') (zb1 C.keep (unst C P K st))) (fun v=>zb1 C.keep (unst C P K st) (.panic v) ⟨env,h⟩)
 |none=>False
def AXd(C:Cfg)(P:Program)(K:Out→St→Prop)(st:List Fr)(ops:Array Oper)(os:List Oper)(i:Nat)(acc:List (Nat×Foot))(env:Env)(h:Hp):Prop:=DRun C P ops os i ⟨env,h⟩ acc (zb1 C.keep (unst C P K st))
def AXf2(C:Cfg)(P:Program)(K:Out→St→Prop)(st:List Fr)(ops:Array Oper)(os:List Oper)(i:Nat)(d:Option Tmp)(r:SR)(acc:List (Nat×Foot))(env:Env)(h:Hp):Prop:=
 fol C r (fun v h' f=>DRun C P ops os (i+1) (((⟨env,h⟩:St).put d v).hp h') (accF acc i f) (zb1 C.keep (unst C P K st))) (fun v=>zg1 ops i=true∧chk ops acc=true∧zb1 C.keep (unst C P K st) (.panic v) ⟨env,h⟩)
def AXg2(C:Cfg)(P:Program)(K:Out→St→Prop)(st:List Fr)(ops:Array Oper)(os:List Oper)(i:Nat)(d:Option Tmp)(gb:Option Bool)(r:SR)(acc:List (Nat×Foot))(env:Env)(h:Hp):Prop:=
 match gb with
 |some gb=>folG C gb r h (fun v h' f=>DRun C P ops os (i+1) (((⟨env,h⟩:St).put d v).hp h') (accF acc i f) (zb1 C.keep (unst C P K st))) (fun v=>zg1 ops i=true∧chk ops acc=true∧zb1 C.keep (unst C P K st) (.panic v) ⟨env,h⟩)
 |none=>False
def AXk(C:Cfg)(P:Program)(K:Out→St→Prop)(st:List Fr)(ops:Array Oper)(acc:List (Nat×Foot))(env:Env)(h:Hp):Prop:=chk ops acc=true∧AXt C P K st (zb7 C.keep env) h
variable {K:Out→St→Prop}{st:List Fr}{ops:Array Oper}{os:List Oper}{env:Env}{h:Hp}
@[congr]theorem AXs_congr {c:Code}{env':Env}{h':Hp}(e:env=env')(e':h=h'):AXs C P K st c env h=AXs C P K st c env' h':=by rw[e,e']
@[congr]theorem AXc_congr {x y:Code}{b b':V}{env':Env}{h':Hp}(eb:b=b')(e:env=env')(e':h=h'):AXc C P K st x y b env h=AXc C P K st x y b' env' h':=by rw[eb,e,e']
@[congr]theorem AXt_congr {env':Env}{h':Hp}(e:env=env')(e':h=h'):AXt C P K st env h=AXt C P K st env' h':=by rw[e,e']
@[congr]theorem AXf1_congr {d:Option Tmp}{r r':SR}(e:r=r'):AXf1 C P K st ops os d r env h=AXf1 C P K st ops os d r' env h:=by rw[e]
@[congr]theorem AXg1_congr {d:Option Tmp}{gb gb':Option Bool}{r r':SR}(eb:gb=gb')(e:r=r'):AXg1 C P K st ops os d gb r env h=AXg1 C P K st ops os d gb' r' env h:=by rw[e,eb]
@[congr]theorem AXf2_congr {i:Nat}{d:Option Tmp}{r r':SR}{acc:List (Nat×Foot)}(e:r=r'):AXf2 C P K st ops os i d r acc env h=AXf2 C P K st ops os i d r' acc env h:=by rw[e]
@[congr]theorem AXg2_congr {i:Nat}{d:Option Tmp}{gb gb':Option Bool}{r r':SR}{acc:List (Nat×Foot)}(eb:gb=gb')(e:r=r'):AXg2 C P K st ops os i d gb r acc env h=AXg2 C P K st ops os i d gb' r' acc env h:=by rw[e,eb]
@[congr]theorem AXk_congr {acc acc':List (Nat×Foot)}(ea:acc=acc'):AXk C P K st ops acc env h=AXk C P K st ops acc' env h:=by rw[ea]
theorem AXs.of {c:Code}{s:St}(h:AXs C P K [] c s.env s.h):AXf C P c s K:=h
def AXp(C:Cfg)(P:Program)(K:Out→St→Prop)(st:List Fr)(x y:Code)(b:Bool)(env:Env)(h:Hp):Prop:=AXs C P K ((if b=true then .sem y else .seq y)::st) x env h
@[congr]theorem AXp_congr {x y:Code}{b b':Bool}(e:b=b'):AXp C P K st x y b env h=AXp C P K st x y b' env h:=by rw[e]
theorem axs_seq(x y:Code):AXs C P K st (.seq x y) env h=AXp C P K st x y (zbf x) env h:=by unfold AXp AXs;rw[AXf];cases zbf x<;>rfl
theorem zye(x y:Code):AXp C P K st x y false env h=AXs C P K (.seq y::st) x env h:=rfl
theorem axp_true(x y:Code):AXp C P K st x y true env h=AXs C P K (.sem y::st) x env h:=rfl
theorem znV(x:Code):zbf (.loop x)=true:=rfl
theorem zlX(i:Nat)(x:Code):zbf (.block i x)=zbf x:=rfl
theorem zr6(x y:Code):zbf (.seq x y)=zbf y:=rfl
theorem znX(c:Operand)(x y:Code):zbf (.cond c x y)=(zbf x||zbf y):=rfl
theorem zka(i:Nat)(o:Array Oper)(d:Bool):zbf (.region i o d)=false:=rfl
theorem znU:zbf .skip=false:=rfl
theorem zr7:zbf .ret=false:=rfl
theorem znW(i:Nat):zbf (.exit i)=false:=rfl
def AXa(C:Cfg)(P:Program)(K:Out→St→Prop)(st:List Fr)(y:Code)(env:Env)(h:Hp):Prop:=AX C P y ⟨env,h⟩ (unst C P K st)
theorem zmI(y:Code):AXs C P K (.sem y::st) .skip env h=AXa C P K st y env h:=rfl
theorem zmL(i:Nat)(y:Code):AXs C P K (.sem y::st) (.exit i) env h=AXs C P K st (.exit i) env h:=rfl
theorem zoF(y:Code):AXs C P K (.sem y::st) .ret env h=AXs C P K st .ret env h:=rfl
def AXa.go {y:Code}(hm:P.follows .mixedOrders=true)(hΓ:∀f args r,C.Γ f args=some r→PCall P f args r)(hΔ:∀f args H r,C.Δ f args H=some r→HCall P f args H r)(hok:za0 C.nt y=true)(hx:AXs C P K st y env h):AXa C P K st y env h:=
 zdq hm ⟨hΓ,hΔ⟩ y _ _ hok hx
def AXa.sub {y:Code}{env':Env}{h':Hp}(hs:Sub C ⟨env,h⟩ ⟨env',h'⟩)(hx:AXa C P K st y env' h'):AXa C P K st y env h:=AX.sub hs hx
def AXa.freeze {y:Code}{env':Env}{h':Hp}{F:Nat→Prop}(hW:C.Wm=[])(hs:Fz C.nx F ⟨env,h⟩ ⟨env',h'⟩)(hx:AXa C P K st y env' h'):AXa C P K st y env h:=AX.freeze hW hs hx
theorem zyc(i:Nat)(x:Code):AXs C P K st (.block i x) env h=AXs C P K (.block i::st) x env h:=rfl
theorem zmH(y:Code):AXs C P K (.seq y::st) .skip env h=AXs C P K st y env h:=rfl
theorem zic(i:Nat):AXs C P K (.block i::st) .skip env h=AXs C P K st .skip env h:=rfl
theorem zmJ:AXs C P K [] .skip env h=K .norm ⟨env,h⟩:=rfl
theorem zmK(i:Nat)(y:Code):AXs C P K (.seq y::st) (.exit i) env h=AXs C P K st (.exit i) env h:=rfl
theorem zid(i j:Nat):AXs C P K (.block j::st) (.exit i) env h=if i=j then AXs C P K st .skip env h else AXs C P K st (.exit i) env h:=rfl
theorem zmM(i:Nat):AXs C P K [] (.exit i) env h=K (.exit i) ⟨env,h⟩:=rfl
theorem zoE(y:Code):AXs C P K (.seq y::st) .ret env h=AXs C P K st .ret env h:=rfl
theorem zkF(i:Nat):AXs C P K (.block i::st) .ret env h=AXs C P K st .ret env h:=rfl
theorem zoG:AXs C P K [] .ret env h=K .ret ⟨env,h⟩:=rfl
def axs_cond(c:Operand)(x y:Code):AXs C P K st (.cond c x y) env h=AXc C P K st x y (ev env c) env h:=by unfold AXs AXc AXf;rfl
def AXm(C:Cfg)(P:Program)(K:Out→St→Prop)(st:List Fr)(os:List Oper)(n:Option (Option Tmp×Operand×List Oper))(env:Env)(h:Hp):Prop:=ARunN C P ⟨os⟩ n ⟨env,h⟩ (zb1 C.keep (unst C P K st))
def AXw(C:Cfg)(P:Program)(K:Out→St→Prop)(st:List Fr)(ops:Array Oper)(os:List Oper)(d:Option Tmp)(c:Prop)(x:V)(env:Env)(h:Hp):Prop:=ANext C P ops os d c (zqJ x h) ⟨env,h⟩ (zb1 C.keep (unst C P K st))
def AXl(C:Cfg)(P:Program)(K:Out→St→Prop)(st:List Fr)(os:List Oper)(n:Option (Nat×Op×Nat))(env:Env)(h:Hp):Prop:=DRunN C P ⟨os⟩ n ⟨env,h⟩ (zb1 C.keep (unst C P K st))
def AXe(C:Cfg)(P:Program)(K:Out→St→Prop)(st:List Fr)(ops:Array Oper)(i0:Nat)(op0:Op)(j0:Nat)(os:List Oper)(i:Nat)(acc:List (Nat×Foot))(r:Option LK)(env:Env)(h:Hp):Prop:=
 zyR C P ops i0 op0 j0 os i ⟨env,h⟩ acc r (zb1 C.keep (unst C P K st))
def lateA(b:Bool)(W:ZN)(h' h:Hp):Prop:=match b with|true=>W=[]∧h'=h|false=>True
def lateB1(b:Bool)(C:Cfg)(P:Program)(op0:Op)(r:Option LK)(h:Hp)(f:Foot):Prop:=match b with|true=>(match r with|some r=>zqD C P op0 r h f|none=>False)|false=>True
def lateR(b:Bool)(env:Env)(h:Hp)(v:V)(f:Foot)(r:Option LK):Option LK:=match b with|true=>some ⟨⟨env,h⟩,v,f⟩|false=>r
@[congr]theorem AXm_congr {n n':Option (Option Tmp×Operand×List Oper)}(e:n=n'):AXm C P K st os n env h=AXm C P K st os n' env h:=by rw[e]
theorem axs_run(i:Nat)(os:List Oper):AXs C P K st (.region i ⟨os⟩ false) env h=AXm C P K st os (zeW os) env h:=rfl
theorem axs_draw(i:Nat)(os:List Oper):AXs C P K st (.region i ⟨os⟩ true) env h=AXl C P K st os (zeY os) env h:=rfl
theorem axm_none:AXm C P K st os none env h=AXr C P K st ⟨os⟩ os env h:=rfl
theorem axm_some(d:Option Tmp)(it:Operand)(r:List Oper):AXm C P K st os (some (d,it,r)) env h=AXw C P K st ⟨os⟩ r d (ev env it).cond (rho env it) env h:=rfl
theorem axl_none:AXl C P K st os none env h=AXd C P K st ⟨os⟩ os 0 [] env h:=rfl
theorem axl_some(i0:Nat)(op0:Op)(j0:Nat):AXl C P K st os (some (i0,op0,j0)) env h=AXe C P K st ⟨os⟩ i0 op0 j0 os 0 [] none env h:=rfl
theorem zrH:zeW []=none:=rfl
def zQ:Op→Bool
 | .next _ _=>false
 |_=>true
def nextX:=@zeW
theorem zrG(dst:Option Tmp)(it:Operand)(type:TypeId)(pos:String)(after:Array Edge)(r:List Oper):nextX ({ dst,op:=.next it false,type,pos,after,guard:=none }::r)=some (dst,it,r):=rfl
theorem znI(dst:Option Tmp)(it:Operand)(type:TypeId)(pos:String)(after:Array Edge)(r:List Oper)(g:Option (Nat×Bool)):nextX ({ dst,op:=.next it true,type,pos,after,guard:=g }::r)=none:=rfl
theorem zlG(a b):zQ (.next a b)=false:=rfl
def znJ(dst:Option Tmp)(op:Op)(type:TypeId)(pos:String)(after:Array Edge)(g:Option (Nat×Bool))(r:List Oper):zeW ({ dst,op,type,pos,after,guard:=g }::r)=bif zQ op then none else nextX ({ dst,op,type,pos,after,guard:=g }::r):=by
 cases h:zQ op with
 |false=>rfl
 |true=>
  unfold zeW;cases op<;>first|rfl|cases h
theorem zv8(a):isEn (.move a)=false:=rfl
theorem zv3(a):isLk (.move a)=false:=rfl
theorem zlH(a):zQ (.move a)=true:=rfl
theorem zn3(a):isEn (.assign a)=false:=rfl
theorem zn0(a):isLk (.assign a)=false:=rfl
theorem zhZ(a):zQ (.assign a)=true:=rfl
theorem zv7(a)(b)(c):isEn (.pick a b c)=false:=rfl
theorem zv2(a)(b)(c):isLk (.pick a b c)=false:=rfl
theorem zlF(a)(b)(c):zQ (.pick a b c)=true:=rfl
theorem zsv(a):isEn (.alloc a)=false:=rfl
theorem zsj(a):isLk (.alloc a)=false:=rfl
theorem zj3(a):zQ (.alloc a)=true:=rfl
theorem isEn_box(a)(b):isEn (.box a b)=false:=rfl
theorem isLk_box(a)(b):isLk (.box a b)=false:=rfl
theorem znH(a)(b):zQ (.box a b)=true:=rfl
theorem zst(a)(b):isEn (.build a b)=false:=rfl
theorem zsh(a)(b):isLk (.build a b)=false:=rfl
theorem zj1(a)(b):zQ (.build a b)=true:=rfl
theorem zhn(a)(b)(c):isEn (.buildSlice a b c)=false:=rfl
theorem zhk(a)(b)(c):isLk (.buildSlice a b c)=false:=rfl
theorem zeV(a)(b)(c):zQ (.buildSlice a b c)=true:=rfl
theorem zn2(a)(b)(c)(d):isEn (.insert a b c d)=false:=rfl
theorem znZ(a)(b)(c)(d):isLk (.insert a b c d)=false:=rfl
theorem zhY(a)(b)(c)(d):zQ (.insert a b c d)=true:=rfl
theorem zv9(a)(b):isEn (.load a b)=false:=rfl
theorem zv4(a)(b):isLk (.load a b)=false:=rfl
theorem zlI(a)(b):zQ (.load a b)=true:=rfl
theorem zsl(a)(b)(c):isEn (.store a b c)=false:=rfl
theorem zr9(a)(b)(c):isLk (.store a b c)=false:=rfl
theorem zjT(a)(b)(c):zQ (.store a b c)=true:=rfl
theorem zsn(a):isEn (.ready a)=false:=rfl
theorem zsb(a):isLk (.ready a)=false:=rfl
theorem zjV(a):zQ (.ready a)=true:=rfl
theorem zsk(a):isEn (.waits a)=false:=rfl
theorem zr8(a):isLk (.waits a)=false:=rfl
theorem zjS(a):zQ (.waits a)=true:=rfl
theorem zkf(a):isEn (.nilCheck a)=false:=rfl
theorem zkb(a):isLk (.nilCheck a)=false:=rfl
theorem zfX(a):zQ (.nilCheck a)=true:=rfl
theorem zsu(a)(b)(c)(d)(e):isEn (.binOp a b c d e)=false:=rfl
theorem zsi(a)(b)(c)(d)(e):isLk (.binOp a b c d e)=false:=rfl
theorem zj2(a)(b)(c)(d)(e):zQ (.binOp a b c d e)=true:=rfl
theorem zv6(a)(b)(c):isEn (.unOp a b c)=false:=rfl
theorem zv1(a)(b)(c):isLk (.unOp a b c)=false:=rfl
theorem zlE(a)(b)(c):zQ (.unOp a b c)=true:=rfl
theorem zl5(a)(b)(c):isEn (.convert a b c)=false:=rfl
theorem zl1(a)(b)(c):isLk (.convert a b c)=false:=rfl
theorem zg8(a)(b)(c):zQ (.convert a b c)=true:=rfl
theorem zcO(a)(b):isEn (.sliceToArrayPointer a b)=false:=rfl
theorem zcN(a)(b):isLk (.sliceToArrayPointer a b)=false:=rfl
theorem zcg(a)(b):zQ (.sliceToArrayPointer a b)=true:=rfl
theorem ze1(a)(b):isEn (.makeInterface a b)=false:=rfl
theorem ze0(a)(b):isLk (.makeInterface a b)=false:=rfl
theorem zdE(a)(b):zQ (.makeInterface a b)=true:=rfl
theorem zkh(a)(b)(c):isEn (.makeFunc a b c)=false:=rfl
theorem zkd(a)(b)(c):isLk (.makeFunc a b c)=false:=rfl
theorem zfZ(a)(b)(c):zQ (.makeFunc a b c)=true:=rfl
theorem zl3(a)(b):isEn (.makeMap a b)=false:=rfl
theorem zlY(a)(b):isLk (.makeMap a b)=false:=rfl
theorem zg6(a)(b):zQ (.makeMap a b)=true:=rfl
theorem zki(a)(b):isEn (.makeChan a b)=false:=rfl
theorem zke(a)(b):isLk (.makeChan a b)=false:=rfl
theorem zf0(a)(b):zQ (.makeChan a b)=true:=rfl
theorem zh7(a)(b)(c):isEn (.makeSlice a b c)=false:=rfl
theorem zh3(a)(b)(c):isLk (.makeSlice a b c)=false:=rfl
theorem zfx(a)(b)(c):zQ (.makeSlice a b c)=true:=rfl
theorem zsm(a)(b)(c)(d)(e):isEn (.slice a b c d e)=false:=rfl
theorem zsa(a)(b)(c)(d)(e):isLk (.slice a b c d e)=false:=rfl
theorem zjU(a)(b)(c)(d)(e):zQ (.slice a b c d e)=true:=rfl
theorem zh9(a)(b)(c):isEn (.fieldAddr a b c)=false:=rfl
theorem zh5(a)(b)(c):isLk (.fieldAddr a b c)=false:=rfl
theorem zfz(a)(b)(c):zQ (.fieldAddr a b c)=true:=rfl
theorem zsr(a)(b)(c):isEn (.field a b c)=false:=rfl
theorem zsf(a)(b)(c):isLk (.field a b c)=false:=rfl
theorem zjZ(a)(b)(c):zQ (.field a b c)=true:=rfl
theorem zh8(a)(b)(c):isEn (.indexAddr a b c)=false:=rfl
theorem zh4(a)(b)(c):isLk (.indexAddr a b c)=false:=rfl
theorem zfy(a)(b)(c):zQ (.indexAddr a b c)=true:=rfl
theorem zsq(a)(b)(c):isEn (.index a b c)=false:=rfl
theorem zse(a)(b)(c):isLk (.index a b c)=false:=rfl
theorem zjY(a)(b)(c):zQ (.index a b c)=true:=rfl
theorem zh6(a)(b)(c)(d):isEn (.mapUpdate a b c d)=false:=rfl
theorem zh2(a)(b)(c)(d):isLk (.mapUpdate a b c d)=false:=rfl
theorem zfw(a)(b)(c)(d):zQ (.mapUpdate a b c d)=true:=rfl
theorem zkg(a)(b)(c):isEn (.mapEntry a b c)=true:=rfl
theorem zkc(a)(b)(c):isLk (.mapEntry a b c)=false:=rfl
theorem zfY(a)(b)(c):zQ (.mapEntry a b c)=true:=rfl
theorem zhm(a)(b)(c)(d):isEn (.entryStore a b c d)=false:=rfl
theorem zhj(a)(b)(c)(d):isLk (.entryStore a b c d)=false:=rfl
theorem zeU(a)(b)(c)(d):zQ (.entryStore a b c d)=true:=rfl
theorem zso(a)(b):isEn (.range a b)=false:=rfl
theorem zsc(a)(b):isLk (.range a b)=false:=rfl
theorem zjW(a)(b):zQ (.range a b)=true:=rfl
theorem zss(a):isEn (.entry a)=false:=rfl
theorem zsg(a):isLk (.entry a)=false:=rfl
theorem zj0(a):zQ (.entry a)=true:=rfl
theorem zhl(a)(b)(c)(d):isEn (.typeAssert a b c d)=false:=rfl
theorem zhi(a)(b)(c)(d):isLk (.typeAssert a b c d)=false:=rfl
theorem zeT(a)(b)(c)(d):zQ (.typeAssert a b c d)=true:=rfl
theorem zl4(a)(b):isEn (.extract a b)=false:=rfl
theorem zl0(a)(b):isLk (.extract a b)=false:=rfl
theorem zg7(a)(b):zQ (.extract a b)=true:=rfl
theorem zwa(a):isEn (.call a)=false:=rfl
theorem zv5(a):isLk (.call a)=false:=rfl
theorem zlJ(a):zQ (.call a)=true:=rfl
theorem zsp(a):isEn (.panic a)=false:=rfl
theorem zsd(a):isLk (.panic a)=false:=rfl
theorem zjX(a):zQ (.panic a)=true:=rfl
theorem zn1(a b c d):isEn (.lookup a b c d)=false:=rfl
theorem znY(a b c):isLk (.lookup a b c false)=true:=rfl
theorem zlZ(a b c):isLk (.lookup a b c true)=false:=rfl
theorem zhX(a b c d):zQ (.lookup a b c d)=true:=rfl
theorem znS(os:List Oper):zeY os=match zh0 os 0 with|none=>none|some j=>zh1 os 0 none j:=rfl
theorem zvO(j:Nat):zh0 [] j=none:=rfl
def zr0(dst:Option Tmp)(op:Op)(type:TypeId)(pos:String)(after:Array Edge)(g:Option (Nat×Bool))(r:List Oper)(j:Nat):zh0 ({ dst,op,type,pos,after,guard:=g }::r) j=bif isEn op then some j else zh0 r (j+1):=by
 show (match isEn op with|true=>_|false=>_)=_;cases isEn op<;>rfl
theorem zvQ(i:Nat)(x:Option Op)(j:Nat):zh1 [] i x j=none:=rfl
def zqy(x y:Code):AXc C P K st x y (.bool true) env h=AXs C P K st x env h:=by simp[AXc]
def zmP(x y:Code):AXc C P K st x y (.bool false) env h=AXs C P K st y env h:=by simp[AXc]
def AXc.intro {x y:Code}{b:Bool}(h1:b=true→AXs C P K st x env h)(h2:b=false→AXs C P K st y env h):AXc C P K st x y (.bool b) env h:=by
 cases b with
 |true=>rw[zqy];exact h1 rfl
 |false=>rw[zmP];exact h2 rfl
theorem axt_eq:AXt C P K st env h=AXs C P K st .skip env h:=rfl
theorem axr_nil:AXr C P K st ops [] env h=AXt C P K st (zb7 C.keep env) h:=rfl
theorem axr_cons(dst:Option Tmp)(op:Op)(type:TypeId)(pos:String)(after:Array Edge):AXr C P K st ops ({ dst,op,type,pos,after,guard:=none }::os) env h=AXf1 C P K st ops os dst (step1 C P env op h) env h:=rfl
theorem zyn(d:Tmp)(b:Bool)(pre:Prop)(v:V)(h':Hp)(R W:ZN)(lo hi:Nat):AXf1 C P K st ops os (some d) (.ok b pre v h' ⟨R,W,lo,hi⟩) env h=(pre∧wok C W=true∧AXr C P K st ops os ((d,v)::env) h'):=rfl
theorem zyo(b:Bool)(pre:Prop)(v:V)(h':Hp)(R W:ZN)(lo hi:Nat):AXf1 C P K st ops os none (.ok b pre v h' ⟨R,W,lo,hi⟩) env h=(pre∧wok C W=true∧AXr C P K st ops os env h'):=rfl
def getO:List Oper→Nat→Option Tmp
 |[],_=>none
 |o::r,i=>bif i==0 then o.dst else getO r (i-1)
theorem zl9(o:Oper)(r:List Oper)(i:Nat):getO (o::r) i=bif i==0 then o.dst else getO r (i-1):=rfl
def zwj:∀(os:List Oper)(i:Nat),(os[i]?).bind (·.dst)=getO os i
 |[],_=>rfl
 |o::r,0=>rfl
 |o::r,i+1=>by rw[Yar,zwj r i,zl9];rfl
def ziL(v:V)(want:Bool):Option Bool:=
 match v with
 | .bool b=>some (b==want)
 | .opt c (.bool b)=>some (c&&(b==want))
 | .opt false _=>some false
 | .tup []=>some false
 |_=>none
def guardV_t(b:Bool):ziL (.bool b) true=some b:=by cases b<;>rfl
def guardV_f(b:Bool):ziL (.bool b) false=some (!b):=by cases b<;>rfl
def zwg(c b:Bool):ziL (.opt c (.bool b)) true=some (c&&b):=by cases b<;>rfl
def zwh(c b:Bool):ziL (.opt c (.bool b)) false=some (c&& !b):=by cases b<;>rfl
def zl8(o:Option Tmp)(env:Env)(want:Bool):Option Bool:=
 match o with
 |some d=>ziL (zdG env d) want
 |none=>none
theorem zn6(d:Tmp)(env:Env)(want:Bool):zl8 (some d) env want=ziL (zdG env d) want:=rfl
def zwf(os:List Oper)(env:Env)(o:Oper)(j:Nat)(want:Bool)(hg:o.guard=some (j,want)):gval ⟨os⟩ env o=zl8 (getO os j) env want:=by
 unfold gval;rw[hg];have e:((⟨os⟩:Array Oper)[j]?).bind (·.dst)=getO os j:=by rw[←zwj];simp
 simp only[e];unfold zl8;cases hd:getO os j with
 |none=>rfl
 |some d=>
  simp only[];rw[←zdb];cases env.lookup d with
  |none=>rfl
  |some v=>
   cases v with
   |opt c v=>cases v<;>cases c<;>rfl
   |tup l=>cases l<;>rfl
   |_=>rfl
def zyd(os0:List Oper)(dst:Option Tmp)(op:Op)(type:TypeId)(pos:String)(after:Array Edge)(j:Nat)(want:Bool):AXr C P K st ⟨os0⟩ ({ dst,op,type,pos,after,guard:=some (j,want) }::os) env h=AXg1 C P K st ⟨os0⟩ os dst (zl8 (getO os0 j) env want) (step1 C P env op h) env h:=by rw[←zwf os0 env { dst,op,type,pos,after,guard:=some (j,want) } j want rfl];unfold AXr AXg1;rfl
theorem zyi(d:Tmp)(gb:Bool)(pre:Prop)(v:V)(h':Hp)(R W:ZN)(lo hi:Nat):AXg1 C P K st ops os (some d) (some gb) (.ok true pre v h' ⟨R,W,lo,hi⟩) env h=((gb=true→pre)∧AXr C P K st ops os ((d,.opt gb v)::env) h):=rfl
theorem zyj(gb:Bool)(pre:Prop)(v:V)(h':Hp)(R W:ZN)(lo hi:Nat):AXg1 C P K st ops os none (some gb) (.ok true pre v h' ⟨R,W,lo,hi⟩) env h=((gb=true→pre)∧AXr C P K st ops os env h):=rfl
def AXg1.pan {d:Tmp}{gb:Bool}{pre:Prop}{v:V}{R:ZN}(h1:gb=true→pre∧K (.panic v) ⟨env,h⟩)(h2:gb=false→AXr C P K st ops os ((d,undefV)::env) h):AXg1 C P K st ops os (some d) (some gb) (.pan pre v R) env h:=by
 show (if gb=true then(pre∧unst C P K st (.panic v) _)else _);cases gb with
 |true=>rw[Yi rfl,zcC];exact h1 rfl
 |false=>rw[Ye Zs];exact h2 rfl
def zmN(d:Tmp)(pre:Prop)(v:V)(h':Hp)(f:Foot):AXg1 C P K st ops os (some d) (some true) (.ok false pre v h' f) env h=(pre∧wok C f.W=true∧AXr C P K st ops os ((d,v)::env) h'):=by simp[AXg1,folG,AXr,St.put,St.hp]
def zmO(d:Tmp)(pre:Prop)(v:V)(h':Hp)(f:Foot):AXg1 C P K st ops os (some d) (some false) (.ok false pre v h' f) env h=AXr C P K st ops os ((d,undefV)::env) h:=by simp[AXg1,folG,AXr,St.put,St.hp]
theorem axd_nil(i:Nat)(acc:List (Nat×Foot)):AXd C P K st ops [] i acc env h=AXk C P K st ops acc env h:=rfl
theorem axd_cons(dst:Option Tmp)(op:Op)(type:TypeId)(pos:String)(after:Array Edge)(i:Nat)(acc:List (Nat×Foot)):AXd C P K st ops ({ dst,op,type,pos,after,guard:=none }::os) i acc env h=AXf2 C P K st ops os i dst (step1 C P env op h) acc env h:=rfl
def zyp(os0:List Oper)(dst:Option Tmp)(op:Op)(type:TypeId)(pos:String)(after:Array Edge)(j:Nat)(want:Bool)(i:Nat)(acc:List (Nat×Foot)):AXd C P K st ⟨os0⟩ ({ dst,op,type,pos,after,guard:=some (j,want) }::os) i acc env h=AXg2 C P K st ⟨os0⟩ os i dst (zl8 (getO os0 j) env want) (step1 C P env op h) acc env h:=by rw[←zwf os0 env { dst,op,type,pos,after,guard:=some (j,want) } j want rfl];unfold AXd AXg2;rfl
def accM(acc:List (Nat×Foot))(i:Nat)(R W:ZN)(lo hi:Nat):List (Nat×Foot):=bif R.isEmpty&&W.isEmpty&&lo==hi then acc else(i,⟨R,W,lo,hi⟩)::acc
def zkJ(acc:List (Nat×Foot))(i:Nat)(R W:ZN)(lo hi:Nat):accF acc i ⟨R,W,lo,hi⟩=accM acc i R W lo hi:=by unfold accF Foot.idle accM;cases (R.isEmpty&&W.isEmpty&&lo==hi)<;>rfl
theorem zyF(acc:List (Nat×Foot))(i lo hi:Nat):accM acc i [] [] lo hi=bif lo==hi then acc else(i,⟨[],[],lo,hi⟩)::acc:=rfl
theorem accM_r(acc:List (Nat×Foot))(i b:Nat)(R W:ZN)(lo hi:Nat):accM acc i (b::R) W lo hi=(i,⟨b::R,W,lo,hi⟩)::acc:=rfl
theorem accM_w(acc:List (Nat×Foot))(i b:Nat)(W:ZN)(lo hi:Nat):accM acc i [] (b::W) lo hi=(i,⟨[],b::W,lo,hi⟩)::acc:=rfl
def zyl(i:Nat)(d:Tmp)(b:Bool)(pre:Prop)(v:V)(h':Hp)(R W:ZN)(lo hi:Nat)(acc:List (Nat×Foot)):AXf2 C P K st ops os i (some d) (.ok b pre v h' ⟨R,W,lo,hi⟩) acc env h=(pre∧wok C W=true∧AXd C P K st ops os (i+1) (accM acc i R W lo hi) ((d,v)::env) h'):=by rw[←zkJ];rfl
def zym(i:Nat)(b:Bool)(pre:Prop)(v:V)(h':Hp)(R W:ZN)(lo hi:Nat)(acc:List (Nat×Foot)):AXf2 C P K st ops os i none (.ok b pre v h' ⟨R,W,lo,hi⟩) acc env h=(pre∧wok C W=true∧AXd C P K st ops os (i+1) (accM acc i R W lo hi) env h'):=by rw[←zkJ];rfl
theorem axe_nil(i0:Nat)(op0:Op)(j0:Nat)(i:Nat)(acc:List (Nat×Foot))(l:Option LK):AXe C P K st ops i0 op0 j0 [] i acc l env h=(chkX ops i0 j0 acc=true∧AXt C P K st (zb7 C.keep env) h):=rfl
theorem lateA_f(W:ZN)(h' h:Hp):lateA false W h' h=True:=rfl
theorem lateA_t(W:ZN)(h' h:Hp):lateA true W h' h=(W=[]∧h'=h):=rfl
theorem lateB_f(op0:Op)(r:Option LK)(h:Hp)(f:Foot):lateB1 false C P op0 r h f=True:=rfl
theorem lateR_f(env:Env)(h:Hp)(v:V)(f:Foot)(r:Option LK):lateR false env h v f r=r:=rfl
theorem lateR_t(env:Env)(h:Hp)(v:V)(f:Foot)(r:Option LK):lateR true env h v f r=some ⟨⟨env,h⟩,v,f⟩:=rfl
theorem lateK_ok(b:Bool)(pre:Prop)(v v':V)(h h':Hp)(f f':Foot):LateK (.ok b pre v' h' f') h v f=(pre∧v'=v∧h'=h∧f'=f):=rfl
def zyg(i:Nat)(d:Tmp)(gb:Bool)(pre:Prop)(v:V)(h':Hp)(R W:ZN)(lo hi:Nat)(acc:List (Nat×Foot)):AXg2 C P K st ops os i (some d) (some gb) (.ok true pre v h' ⟨R,W,lo,hi⟩) acc env h=((gb=true→pre)∧AXd C P K st ops os (i+1) (accM acc i R [] 0 0) ((d,.opt gb v)::env) h):=by rw[←zkJ];rfl
def AXg2.pan {i:Nat}{d:Tmp}{gb:Bool}{pre:Prop}{v:V}{R:ZN}{acc:List (Nat×Foot)}(h1:gb=true→pre∧zg1 ops i=true∧chk ops acc=true∧K (.panic v) ⟨env,h⟩) (h2:gb=false→AXd C P K st ops os (i+1) (accF acc i ⟨[],[],0,0⟩) ((d,undefV)::env) h):AXg2 C P K st ops os i (some d) (some gb) (.pan pre v R) acc env h:=by
 show (if gb=true then(pre∧zg1 ops i=true∧chk ops acc=true∧unst C P K st (.panic v) _)else _);cases gb with
 |true=>rw[Yi rfl,zcC];exact h1 rfl
 |false=>rw[Ye Zs];exact h2 rfl
def axk_nil:AXk C P K st ops [] env h=AXt C P K st (zb7 C.keep env) h:=by show (chk ops []=true∧_)=_;simp[chk]
def AXk.intro {acc:List (Nat×Foot)}(h1:chk ops acc=true)(h2:AXt C P K st (zb7 C.keep env) h):AXk C P K st ops acc env h:=⟨h1,h2⟩
def zfK:List (Nat×Foot)→Bool
 |[]=>true
 |(_,f)::r=>f.still&&zfK r
def zq3 {acc:List (Nat×Foot)}(hs:zfK acc=true):chk ops acc=true:=by
 have:∀acc:List (Nat×Foot),zfK acc=true→(acc.all fun p=>p.2.still)=true:=by
  intro acc;induction acc with
  |nil=>intro _;rfl
  |cons p r ih=>intro e;obtain⟨i,f⟩:=p;simp only[zfK,Yj]at e;simp[e.1,ih e.2]
 simp[chk,this acc hs]
def zyf {acc:List (Nat×Foot)}(hs:zfK acc=true):AXk C P K st ops acc env h=AXt C P K st (zb7 C.keep env) h:=by show (chk ops acc=true∧_)=_;simp[zq3 hs]
theorem zq2:zfK []=true:=rfl
theorem zna(i:Nat)(R W:ZN)(lo hi:Nat)(r:List (Nat×Foot)):zfK ((i,⟨R,W,lo,hi⟩)::r)=(W.isEmpty&&lo==hi&&zfK r):=rfl
theorem wok_nil:wok C []=true:=rfl
theorem wok_cons(b:Nat)(W:ZN):wok C (b::W)=((decide (C.nx≤b)||C.Wm.contains b)&&wok C W):=rfl
def mkSR(st:Bool)(c:Prop)(r:AR)(H:Hp):SR:=.ok st (c∧r.pre) r.v r.h ⟨r.R,r.W,H.next,r.h.next⟩
@[congr]theorem mkSR_congr {st:Bool}{c c':Prop}{r r':AR}{H:Hp}(hc:c=c')(hr:r=r'):mkSR st c r H=mkSR st c' r' H:=by rw[hc,hr]
theorem mkSR_mk(st:Bool)(c p:Prop)(v:V)(h:Hp)(R W:ZN)(H:Hp):mkSR st c ⟨p,v,h,R,W⟩ H=.ok st (c∧p) v h ⟨R,W,H.next,h.next⟩:=rfl
theorem next_mk(bs:ZH)(n:Nat):Hp.next ⟨bs,n⟩=n:=rfl
def zZ {op:Op}{env:Env}{H:Hp}{c:Prop}{r:AR}(h1:step1 C P env op H=.ok (zfo op) (needs (op.operands.toList.map (ev env))∧(aop P (rho env) op H).pre) (aop P (rho env) op H).v (aop P (rho env) op H).h ⟨(aop P (rho env) op H).R,(aop P (rho env) op H).W,H.next,(aop P (rho env) op H).h.next⟩) (h2:needs (op.operands.toList.map (ev env))↔c) (h3:aop P (rho env) op H=r):step1 C P env op H=mkSR (zfo op) c r H:=by rw[h1,h3,propext h2];rfl
theorem zrJ(v:V)(r:ZA):needs (v::r)=(v.cond∧needs r):=rfl
variable {H:Hp}
def zq5(x:Operand):step1 C P env (.move x) H=mkSR true (ev env x).cond (.val H (ev env x).val) H:=zZ rfl (by simp[Op.operands,needs]) rfl
def zk8(x:Operand):step1 C P env (.assign x) H=mkSR true (ev env x).cond (.val H (ev env x).val) H:=zZ rfl (by simp[Op.operands,needs]) rfl
theorem zq4(c a b:Operand):step1 C P env (.pick c a b) H=zd9 (ev env c) (ev env a) (ev env b) H:=rfl
def znh(t:TypeId):step1 C P env (.alloc t) H=mkSR false True (zfS P t H) H:=zZ rfl (by simp[Op.operands,needs]) rfl
def boxK(b:Bool)(c:Prop)(v:V)(H:Hp):SR:=match b with|true=>.ok true (c∧zt v=true) (.fp v.cellsV) H ⟨[],[],H.next,H.next⟩|false=>mkSR false c (aBox v H) H
def ztY(t:TypeId)(x:Operand):step1 C P env (.box t x) H=boxK (C.fz t) (ev env x).cond (ev env x).val H:=by
 show (if C.fz t=true then _ else _)=_;unfold boxK;cases C.fz t with
 |true=>rw[Yi rfl]
 |false=>rw[Ye Zs];show SR.ok false (needs [ev env x]∧_) _ _ _=mkSR _ _ _ _;unfold mkSR needs needs;simp only[Yad];rfl
theorem zx1(c:Prop)(v:V):boxK true c v H=.ok true (c∧zt v=true) (.fp v.cellsV) H ⟨[],[],H.next,H.next⟩:=rfl
theorem ztc(c:Prop)(v:V):boxK false c v H=mkSR false c (aBox v H) H:=rfl
def zq7(t:TypeId)(x:Operand):step1 C P env (.load t x) H=mkSR true (ev env x).cond (zcW P t (ev env x).val H) H:=zZ rfl (by simp[Op.operands,needs]) rfl
def znb(t:TypeId)(a x:Operand):step1 C P env (.store t a x) H=mkSR false ((ev env a).cond∧(ev env x).cond) (zef P t (ev env a).val (ev env x).val H) H:=zZ rfl (by simp[Op.operands,needs]) rfl
def zhP(x:Operand):step1 C P env (.nilCheck x) H=mkSR true (ev env x).cond (aNil (ev env x).val H) H:=zZ rfl (by simp[Op.operands,needs]) rfl
def ztZ(op:BinOp)(t:TypeId)(x y:Operand)(u:TypeId):step1 C P env (.binOp op t x y u) H=mkSR true ((ev env x).cond∧(ev env y).cond) (aBin P op t (ev env x).val (ev env y).val H) H:=zZ rfl (by simp[Op.operands,needs]) rfl
def step1_un(op:UnOp)(t:TypeId)(x:Operand):step1 C P env (.unOp op t x) H=mkSR true (ev env x).cond (aUn op (ev env x).val H) H:=zZ rfl (by simp[Op.operands,needs]) rfl
def zjo(s d:TypeId)(x:Operand):step1 C P env (.convert s d x) H=mkSR false (ev env x).cond (zcX P s d (ev env x).val H) H:=zZ rfl (by simp[Op.operands,needs]) rfl
def zhR(f:FuncId)(caps:List Operand):step1 C P env (.makeFunc (.func f) #[] ⟨caps⟩) H=mkSR true (needs (caps.map (ev env))) (.val H (.fn f (caps.map (rho env)))) H:=zZ rfl (by simp[Op.operands]) rfl
def zgD(t:TypeId)(l c:Operand):step1 C P env (.makeSlice t l c) H=mkSR false ((ev env l).cond∧(ev env c).cond) (zaJ P t (ev env l).val (ev env c).val H) H:=zZ rfl (by simp[Op.operands,needs]) rfl
def zjk(t:TypeId)(x l:Operand):step1 C P env (.slice t x (some l) none none) H=mkSR true ((ev env x).cond∧(ev env l).cond) (zbm P t (ev env x).val (some (ev env l).val) none none H) H:=zZ rfl (by simp[Op.operands,needs]) rfl
def zjl(t:TypeId)(x h:Operand):step1 C P env (.slice t x none (some h) none) H=mkSR true ((ev env x).cond∧(ev env h).cond) (zbm P t (ev env x).val none (some (ev env h).val) none H) H:=zZ rfl (by simp[Op.operands,needs]) rfl
def zjj(t:TypeId)(x l h:Operand):step1 C P env (.slice t x (some l) (some h) none) H=mkSR true ((ev env x).cond∧(ev env l).cond∧(ev env h).cond) (zbm P t (ev env x).val (some (ev env l).val) (some (ev env h).val) none H) H:=zZ rfl (by simp[Op.operands,needs]) rfl
def zgG(t:TypeId)(x:Operand)(f:Nat):step1 C P env (.fieldAddr t x f) H=mkSR true (ev env x).cond (zaB P t (ev env x).val f H) H:=zZ rfl (by simp[Op.operands,needs]) rfl
def zgF(t:TypeId)(x i:Operand):step1 C P env (.indexAddr t x i) H=mkSR true ((ev env x).cond∧(ev env i).cond) (zaa P t (ev env x).val (ev env i).val H) H:=zZ rfl (by simp[Op.operands,needs]) rfl
def znf(t:TypeId)(x i:Operand):step1 C P env (.index t x i) H=mkSR true ((ev env x).cond∧(ev env i).cond) (zb0 P t (ev env x).val (ev env i).val H) H:=zZ rfl (by simp[Op.operands,needs]) rfl
def zjn(x:Operand)(i:Nat):step1 C P env (.extract x i) H=mkSR true (ev env x).cond (zbn (ev env x).val i H) H:=zZ rfl (by simp[Op.operands,needs]) rfl
def ztX(t:TypeId)(x:Operand):step1 C P env (.call { callee:=.builtin .len,args:=⟨[x]⟩,argTypes:=⟨[t]⟩ }) H=mkSR true (ev env x).cond (aLen P t (ev env x).val H) H:=zZ rfl (by simp[Op.operands,Call.operands,needs]) rfl
def zk9(t u:TypeId)(x y:Operand):step1 C P env (.call { callee:=.builtin .append,args:=⟨[x,y]⟩,argTypes:=⟨[t,u]⟩ }) H=mkSR false ((ev env x).cond∧(ev env y).cond) (zdl P t u (ev env x).val (ev env y).val H) H:=zZ rfl (by simp[Op.operands,Call.operands,needs]) rfl
def ztW(x y:Operand)(ts:Array TypeId):step1 C P env (.call { callee:=.builtin .max,args:=⟨[x,y]⟩,argTypes:=ts }) H=mkSR true ((ev env x).cond∧(ev env y).cond) (aMax (ev env x).val (ev env y).val true H) H:=zZ rfl (by simp[Op.operands,Call.operands,needs]) rfl
def zq6(x y z:Operand)(ts:Array TypeId):step1 C P env (.call { callee:=.builtin .max,args:=⟨[x,y,z]⟩,argTypes:=ts }) H=mkSR true ((ev env x).cond∧(ev env y).cond∧(ev env z).cond) (zmU (ev env x).val (ev env y).val (ev env z).val H) H:=zZ rfl (by simp[Op.operands,Call.operands,needs]) rfl
def ztV(x y:Operand)(ts:Array TypeId):step1 C P env (.call { callee:=.builtin .min,args:=⟨[x,y]⟩,argTypes:=ts }) H=mkSR true ((ev env x).cond∧(ev env y).cond) (aMax (ev env x).val (ev env y).val false H) H:=zZ rfl (by simp[Op.operands,Call.operands,needs]) rfl
def zeb(env:Env):List (Nat×Operand)→List (Nat×V)
 |[]=>[]
 |(i,x)::r=>(i,(ev env x).val)::zeb env r
theorem zry:zeb env []=[]:=rfl
theorem znz(i:Nat)(x:Operand)(r:List (Nat×Operand)):zeb env ((i,x)::r)=(i,(ev env x).val)::zeb env r:=rfl
def zeR:∀ps:List (Nat×Operand),ps.map (fun p=>(p.1,rho env p.2))=zeb env ps
 |[]=>rfl
 |(i,x)::r=>by rw[Y7,zeR r];rfl
def zhb(env:Env):List (Nat×Operand)→Prop
 |[]=>True
 |(_,x)::r=>(ev env x).cond∧zhb env r
theorem zrK:zhb env []=True:=rfl
theorem znK(i:Nat)(x:Operand)(r:List (Nat×Operand)):zhb env ((i,x)::r)=((ev env x).cond∧zhb env r):=rfl
def zha:∀ps:List (Nat×Operand),needs ((ps.map (·.2)).map (ev env))↔zhb env ps
 |[]=>Iff.rfl
 |_::r=>and_congr Iff.rfl (zha r)
def zng(t:TypeId)(ps:List (Nat×Operand)):step1 C P env (.build t ⟨ps⟩) H=mkSR true (zhb env ps) (zdp P t (zeb env ps) H) H:=
 zZ rfl (by rw[←zha];simp[Op.operands]) (by rw[←zeR];rfl)
def zfU(t:TypeId)(n:Nat)(ps:List (Nat×Operand)):step1 C P env (.buildSlice t n ⟨ps⟩) H=mkSR false (zhb env ps) (zS P t n (zeb env ps) H) H:=
 zZ rfl (by rw[←zha];simp[Op.operands]) (by rw[←zeR];rfl)
theorem znd(x:Operand):step1 C P env (.panic x) H=match (ev env x).val with| .ifc t v=>.pan (ev env x).cond (.ifc t v) []|_=>.bad:=rfl
def vals(env:Env):List Operand→ZA
 |[]=>[]
 |x::r=>(ev env x).val::vals env r
theorem vals_nil:vals env []=[]:=rfl
theorem ztG(x:Operand)(r:List Operand):vals env (x::r)=(ev env x).val::vals env r:=rfl
def vals_eq:∀xs:List Operand,xs.map (rho env)=vals env xs
 |[]=>rfl
 |x::r=>by rw[Y7,vals_eq r];rfl
def conds(env:Env):List Operand→Prop
 |[]=>True
 |x::r=>(ev env x).cond∧conds env r
theorem zwU:conds env []=True:=rfl
theorem zsK(x:Operand)(r:List Operand):conds env (x::r)=((ev env x).cond∧conds env r):=rfl
def zkq:∀xs:List Operand,needs (xs.map (ev env))=conds env xs
 |[]=>rfl
 |x::r=>by rw[Y7,zrJ,zkq r];rfl
def zgE(f:FuncId)(caps:List Operand):step1 C P env (.makeFunc (.func f) ⟨[]⟩ ⟨caps⟩) H=mkSR true (conds env caps) (.val H (.fn f (vals env caps))) H:=by rw[←vals_eq,←zkq];exact zhR f caps
def callF(C:Cfg)(v:V)(as:ZA)(nd:Prop)(H:Hp):SR:=
 match v with
 | .fn f caps=>zhB C f (as++caps) nd H
 | .bnd f fs=>zhB C f (fs++as) nd H
 |_=>.bad
theorem callF_fn(f:FuncId)(caps as:ZA)(nd:Prop):callF C (.fn f caps) as nd H=zhB C f (as++caps) nd H:=rfl
def zq8(f:Operand)(args:List Operand)(ts:Array TypeId):step1 C P env (.call { callee:=.value f,args:=⟨args⟩,argTypes:=ts }) H=callF C (ev env f).val (vals env args) ((ev env f).cond∧conds env args) H:=by rw[←vals_eq,←zkq];rfl
def zmo(o:Option PR)(C:Cfg)(f:FuncId)(as:ZA)(nd:Prop)(H:Hp):SR:=
 match o with
 |some (.ret v)=>.ok true nd v H ⟨[],[],0,0⟩
 |some (.panic v)=>.pan nd v []
 |none=>
  match C.Δ f as H with
  |some r=>mkSR false nd r H
  |none=>.bad
def nzs:ZA→ZA
 |[]=>[]
 |v::r=>nz v::nzs r
theorem nzs_nil:nzs []=[]:=rfl
theorem nzs_cons(v:V)(r:ZA):nzs (v::r)=nz v::nzs r:=rfl
def nzs_eq:∀as:ZA,as.map nz=nzs as
 |[]=>rfl
 |v::r=>by rw[Y7,nzs_eq r];rfl
theorem nz_bool(b:Bool):nz (.bool b)=.bool b:=rfl
theorem nz_int(k:IntKind)(n:Int):nz (.int k n)=.int k n:=rfl
theorem nz_str(l:ZL):nz (.str l)=.str l:=rfl
theorem nz_nilS:nz .nilS=.fs [] 0:=rfl
theorem nz_sl(b o l s:Nat)(k:Option Nat):nz (.sl b o l s k)=.sl b o l s k:=rfl
theorem nz_fs(cs:ZA)(n:Nat):nz (.fs cs n)=.fs cs n:=rfl
theorem nz_nilP:nz .nilP=.nilP:=rfl
theorem nz_ptr(b o:Nat):nz (.ptr b o)=.ptr b o:=rfl
theorem nz_fp(cs:ZA):nz (.fp cs)=.fp cs:=rfl
theorem nz_nilM:nz .nilM=.nilM:=rfl
theorem nz_map(b:Nat):nz (.map b)=.map b:=rfl
theorem nz_fn(f:FuncId)(cs:ZA):nz (.fn f cs)=.fn f cs:=rfl
theorem nz_nilF:nz .nilF=.nilF:=rfl
theorem nz_ifc(t:TypeId)(v:V):nz (.ifc t v)=.ifc t v:=rfl
theorem nz_nilI:nz .nilI=.nilI:=rfl
theorem nz_agg(cs:ZA):nz (.agg cs)=.agg cs:=rfl
theorem nz_tup(cs:ZA):nz (.tup cs)=.tup cs:=rfl
theorem nz_any:nz .any=.any:=rfl
def zor(b:Bool)(C:Cfg)(f:FuncId)(as:ZA)(nd:Prop)(H:Hp):SR:=
 match b with
 |true=>zmo (C.Γ f (nzs as)) C f as nd H
 |false=>
  match C.Δ f as H with
  |some r=>mkSR false nd r H
  |none=>
   match C.Γ f (as.map (lend H))with
   |some (.ret v)=>.ok true (nd∧zaF v=true) v H ⟨zck as,[],0,0⟩
   |some (.panic v)=>.pan (nd∧zaF v=true) v (zck as)
   |none=>.bad
def call1_eq(f:FuncId)(as:ZA)(nd:Prop):zhB C f as nd H=zor (zck as).isEmpty C f as nd H:=by
 unfold zhB zor;cases (zck as).isEmpty with
 |true=>rw[Yi rfl,←nzs_eq];unfold zmo mkSR;rfl
 |false=>rw[Ye Zs];rfl
theorem zsW(f:FuncId)(as:ZA)(nd:Prop):zor true C f as nd H=zmo (C.Γ f (nzs as)) C f as nd H:=rfl
@[congr]theorem callE_congr {b b':Bool}{f:FuncId}{as:ZA}{nd:Prop}(h:b=b'):zor b C f as nd H=zor b' C f as nd H:=by rw[h]
theorem lend_sl(b off len sz:Nat)(kc:Option Nat):lend H (.sl b off len sz kc)=znR (H.get b) b off len sz kc:=rfl
theorem zrT(cs:ZA)(b off len sz:Nat)(kc:Option Nat):znR (some (.cells cs)) b off len sz kc=if off+len*sz≤cs.length then .fs ((cs.drop off).take (len*sz)) len else .sl b off len sz kc:=rfl
theorem zvH(b:Bool):lend H (.bool b)=.bool b:=rfl
theorem lend_int(k:IntKind)(n:Int):lend H (.int k n)=.int k n:=rfl
theorem lend_str(l:ZL):lend H (.str l)=.str l:=rfl
theorem zvF:lend H .nilS=.fs [] 0:=rfl
theorem lend_fs(cs:ZA)(n:Nat):lend H (.fs cs n)=.fs cs n:=rfl
theorem zvG:lend H .nilP=.nilP:=rfl
theorem lendS_ty(t:TypeId)(cs:ZA)(b off len sz:Nat)(kc:Option Nat):znR (some (.ty t cs)) b off len sz kc=if off+len*sz≤cs.length then .fs ((cs.drop off).take (len*sz)) len else .sl b off len sz kc:=rfl
theorem lend_ptr(b o:Nat):lend H (.ptr b o)=zrW (H.get b) b o:=rfl
theorem zrV(cs:ZA)(b off:Nat):zrW (some (.cells cs)) b off=.fp (cs.drop off):=rfl
theorem lend_fp(cs:ZA):lend H (.fp cs)=.fp cs:=rfl
theorem lend_map(b:Nat):lend H (.map b)=.map b:=rfl
def zpL(H:Hp):ZA→ZA
 |[]=>[]
 |v::r=>zeo H v::zpL H r
theorem zrS:zpL H []=[]:=rfl
theorem znQ(v:V)(r:ZA):zpL H (v::r)=zeo H v::zpL H r:=rfl
theorem lend0_sl(b off len sz:Nat)(kc:Option Nat):zeo H (.sl b off len sz kc)=znR (H.get b) b off len sz kc:=rfl
theorem zvK(b o:Nat):zeo H (.ptr b o)=zrW (H.get b) b o:=rfl
theorem zrY(b:Bool):zeo H (.bool b)=.bool b:=rfl
theorem zvL(k:IntKind)(n:Int):zeo H (.int k n)=.int k n:=rfl
theorem zvJ(l:ZL):zeo H (.str l)=.str l:=rfl
theorem lend0_fs(cs:ZA)(n:Nat):zeo H (.fs cs n)=.fs cs n:=rfl
theorem lend0_fp(cs:ZA):zeo H (.fp cs)=.fp cs:=rfl
theorem zrq(b:Bool):zdB (.bool b)=[]:=rfl
theorem zux(k:IntKind)(n:Int):zdB (.int k n)=[]:=rfl
theorem zuv(l:ZL):zdB (.str l)=[]:=rfl
theorem refs1_fs(cs:ZA)(n:Nat):zdB (.fs cs n)=[]:=rfl
theorem refs1_fp(cs:ZA):zdB (.fp cs)=[]:=rfl
theorem zro:zdB .nilS=[]:=rfl
theorem zrp:zdB .nilP=[]:=rfl
theorem refs1_sl(b off len sz:Nat)(kc:Option Nat):zdB (.sl b off len sz kc)=[b]:=rfl
theorem zuw(b o:Nat):zdB (.ptr b o)=[b]:=rfl
def zns:ZA→ZN
 |[]=>[]
 |v::r=>zcI v++zns r
theorem zuu:zns []=[]:=rfl
theorem zrn(v:V)(r:ZA):zns (v::r)=zcI v++zns r:=rfl
def zjE:∀vs:ZA,vs.flatMap zcI=zns vs
 |[]=>rfl
 |v::r=>by rw[List.flatMap_cons,zjE r];rfl
def refs1_fn(f:FuncId)(cs:ZA):zdB (.fn f cs)=zns cs:=by rw[←zjE];rfl
def zuy(cs:ZA):zdB (.agg cs)=zns cs:=by rw[←zjE];rfl
theorem refs0_sl(b off len sz:Nat)(kc:Option Nat):zcI (.sl b off len sz kc)=[b]:=rfl
theorem zuA(b o:Nat):zcI (.ptr b o)=[b]:=rfl
theorem zuC(k:IntKind)(n:Int):zcI (.int k n)=[]:=rfl
theorem zuz(l:ZL):zcI (.str l)=[]:=rfl
theorem zru(b:Bool):zcI (.bool b)=[]:=rfl
theorem refs0_fs(cs:ZA)(n:Nat):zcI (.fs cs n)=[]:=rfl
theorem refs0_fp(cs:ZA):zcI (.fp cs)=[]:=rfl
theorem zvI:zck []=[]:=rfl
theorem zrU(v:V)(r:ZA):zck (v::r)=zdB v++zck r:=rfl
theorem znl(b:Bool):zaF (.bool b)=true:=rfl
theorem scalar_int(k:IntKind)(n:Int):zaF (.int k n)=true:=rfl
theorem zrf(l:ZL):zaF (.str l)=true:=rfl
theorem zre(vs:ZA):zaF (.tup vs)=vs.all zey:=rfl
theorem zrh(vs:ZA):zaF (.agg vs)=vs.all zey:=rfl
theorem zrg(t:TypeId)(v:V):zaF (.ifc t v)=zey v:=rfl
theorem zyr:([]:ZA).all zey=true:=rfl
theorem ztf(v:V)(r:ZA):(v::r).all zey=(zey v&&r.all zey):=rfl
theorem zys(b:Bool):zey (.bool b)=true:=rfl
theorem atom_int(k:IntKind)(n:Int):zey (.int k n)=true:=rfl
theorem atom_str(l:ZL):zey (.str l)=true:=rfl
theorem lend_ifc(t:TypeId)(v:V):lend H (.ifc t v)=.ifc t v:=rfl
theorem zrX:zeo H .nilS=.fs [] 0:=rfl
theorem zrt:zcI .nilS=[]:=rfl
theorem zxa(v:V)(f:FuncId)(as:ZA)(nd:Prop):zmo (some (.ret v)) C f as nd H=.ok true nd v H ⟨[],[],0,0⟩:=rfl
theorem zxb(v:V)(f:FuncId)(as:ZA)(nd:Prop):zmo (some (.panic v)) C f as nd H=.pan nd v []:=rfl
@[congr]theorem callG_congr {o o':Option PR}{f:FuncId}{as:ZA}{nd:Prop}(h:o=o'):zmo o C f as nd H=zmo o' C f as nd H:=by rw[h]
def callM(o:Option AR)(nd:Prop)(H:Hp):SR:=match o with|some r=>mkSR false nd r H|none=>.bad
theorem zsV(f:FuncId)(as:ZA)(nd:Prop):zmo none C f as nd H=callM (C.Δ f as H) nd H:=rfl
theorem zsU(r:AR)(nd:Prop):callM (some r) nd H=mkSR false nd r H:=rfl
def zxd(o:Option AR)(C:Cfg)(f:FuncId)(as:ZA)(nd:Prop)(H:Hp):SR:=
 match o with
 |some r=>mkSR false nd r H
 |none=>
  match C.Γ f (as.map (lend H))with
  |some (.ret v)=>.ok true (nd∧zaF v=true) v H ⟨zck as,[],0,0⟩
  |some (.panic v)=>.pan (nd∧zaF v=true) v (zck as)
  |none=>.bad
def zoq(f:FuncId)(as:ZA)(nd:Prop):zor false C f as nd H=zxd (C.Δ f as H) C f as nd H:=by unfold zor zxd;rfl
@[congr]theorem callD_congr {o o':Option AR}{f:FuncId}{as:ZA}{nd:Prop}(h:o=o'):zxd o C f as nd H=zxd o' C f as nd H:=by rw[h]
theorem zsX(r:AR)(f:FuncId)(as:ZA)(nd:Prop):zxd (some r) C f as nd H=mkSR false nd r H:=rfl
def callL(o:Option PR)(as:ZA)(nd:Prop)(H:Hp):SR:=
 match o with
 |some (.ret v)=>.ok true (nd∧zaF v=true) v H ⟨zck as,[],0,0⟩
 |some (.panic v)=>.pan (nd∧zaF v=true) v (zck as)
 |none=>.bad
def lends(H:Hp):ZA→ZA
 |[]=>[]
 |v::r=>lend H v::lends H r
theorem zvE:lends H []=[]:=rfl
theorem zrR(v:V)(r:ZA):lends H (v::r)=lend H v::lends H r:=rfl
theorem zw8(v:V)(as:ZA)(nd:Prop):callL (some (.ret v)) as nd H=.ok true (nd∧zaF v=true) v H ⟨zck as,[],0,0⟩:=rfl
theorem zw9(v:V)(as:ZA)(nd:Prop):callL (some (.panic v)) as nd H=.pan (nd∧zaF v=true) v (zck as):=rfl
def zsC(f0:FuncId)(c:ZA→Option PR)(Γ:FuncId→ZA→Option PR):FuncId→ZA→Option PR:=fun f as=>bif f==f0 then c as else Γ f as
def noΓ:FuncId→ZA→Option PR:=fun _ _=>none
def zaQ(f0:FuncId)(c:ZA→Hp→Option AR)(Δ:FuncId→ZA→Hp→Option AR):FuncId→ZA→Hp→Option AR:=fun f as H=>bif f==f0 then c as H else Δ f as H
def noΔ:FuncId→ZA→Hp→Option AR:=fun _ _ _=>none
theorem zp2(f0:FuncId)(c:ZA→Option PR)(Γ:FuncId→ZA→Option PR)(f:FuncId)(as:ZA):zsC f0 c Γ f as=bif f==f0 then c as else Γ f as:=rfl
theorem noΓ_at(f:FuncId)(as:ZA):noΓ f as=none:=rfl
theorem zp1(f0:FuncId)(c:ZA→Hp→Option AR)(Δ:FuncId→ZA→Hp→Option AR)(f:FuncId)(as:ZA)(H:Hp):zaQ f0 c Δ f as H=bif f==f0 then c as H else Δ f as H:=rfl
theorem noΔ_at(f:FuncId)(as:ZA)(H:Hp):noΔ f as H=none:=rfl
def zcY(P:Program)(Γ:FuncId→ZA→Option PR):Prop:=∀f args r,Γ f args=some r→PCall P f args r
def zay(P:Program)(Δ:FuncId→ZA→Hp→Option AR):Prop:=∀f args H r,Δ f args H=some r→HCall P f args H r
def zh:zcY P noΓ:=fun _ _ _ h=>by cases h
def zg:zay P noΔ:=fun _ _ _ _ h=>by cases h
def zf {f0:FuncId}{c:ZA→Option PR}{Γ:FuncId→ZA→Option PR}(h:∀args r,c args=some r→PCall P f0 args r)(hΓ:zcY P Γ):zcY P (zsC f0 c Γ):=fun f args r e=>by
 rw[zp2]at e;cases hb:f==f0 with
 |true=>rw[hb]at e;simp at hb;subst hb;exact h _ _ e
 |false=>rw[hb]at e;exact hΓ _ _ _ e
def zK {f0:FuncId}{c:ZA→Hp→Option AR}{Δ:FuncId→ZA→Hp→Option AR}(h:∀args H r,c args H=some r→HCall P f0 args H r)(hΔ:zay P Δ):zay P (zaQ f0 c Δ):=fun f args H r e=>by
 rw[zp1]at e;cases hb:f==f0 with
 |true=>rw[hb]at e;simp at hb;subst hb;exact h _ _ _ e
 |false=>rw[hb]at e;exact hΔ _ _ _ _ e
end Go.Ab
