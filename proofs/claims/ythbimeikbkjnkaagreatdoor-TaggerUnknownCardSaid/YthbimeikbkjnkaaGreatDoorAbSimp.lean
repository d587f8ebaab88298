/- How simp is to walk: small rewrite rules, one an operation; what is looked into first, what is left alone. -/
import Derived.Test.YthbimeikbkjnkaaGreatDoorAbCall
import Derived.Tactics
set_option linter.all false
namespace Go.Ab
variable {C:Cfg}{P:Program}
def zdd:Env→Nat→V
 |[],_=>.any
 |(k,v)::r,t=>bif t==k then v else zdd r t
theorem zug(t:Nat):zdd [] t=.any:=rfl
theorem zhI(k:Nat)(v:V)(r:Env)(t:Nat):zdd ((k,v)::r) t=bif t==k then v else zdd r t:=rfl
theorem zcU:∀(env:Env) (t:Nat),(env.lookup t).getD .any=zdd env t
 |[],_=>rfl
 |(k,v)::r,t=>by rw [List.lookup_cons,zhI, ←zcU r t];cases t==k<;>rfl
theorem ev_tmp(env:Env)(t:Nat):ev env (.tmp t)=zdd env t:=zcU env t
theorem ev_const(env:Env)(v:Value):ev env (.const v)=cv v:=rfl
theorem ev_func(env:Env)(f:FuncId):ev env (.func f)=.fn f []:=rfl
theorem zu5(env:Env)(k:Nat):ev env (.global k)=(match GL k with|some cs=>.fp cs|none=>.any):=rfl
theorem cv_bool(b:Bool):cv (.bool b)=.bool b:=rfl
theorem cv_int(k:IntKind)(n:Int):cv (.int k n)=.int k n:=rfl
theorem cv_str(l:List UInt8):cv (.string ⟨l.toArray⟩)=.str l:=rfl
theorem cv_nilS:cv (.slice none 0 0)=.nilS:=rfl
theorem cv_nilP:cv (.pointer none)=.nilP:=rfl
theorem cv_nilM:cv (.map none)=.nilM:=rfl
theorem cv_nilF:cv .nilFunc=.nilF:=rfl
theorem cv_nilI:cv .nilIface=.nilI:=rfl
theorem cv_agg(cs:List Value):cv (.agg cs.toArray)=.agg (cs.map cv1):=rfl
theorem cv_tup(cs:List Value):cv (.tuple cs.toArray)=.tup (cs.map cv1):=rfl
theorem cv1_bool(b:Bool):cv1 (.bool b)=.bool b:=rfl
theorem cv1_int(k:IntKind)(n:Int):cv1 (.int k n)=.int k n:=rfl
theorem cv1_str(l:List UInt8):cv1 (.string ⟨l.toArray⟩)=.str l:=rfl
theorem cv1_nilS:cv1 (.slice none 0 0)=.nilS:=rfl
theorem cv1_nilP:cv1 (.pointer none)=.nilP:=rfl
theorem cv1_nilM:cv1 (.map none)=.nilM:=rfl
theorem cv1_nilF:cv1 .nilFunc=.nilF:=rfl
theorem cv1_nilI:cv1 .nilIface=.nilI:=rfl
theorem vc_bool(b:Bool):V.cond (.bool b)=True:=rfl
theorem vc_int(k:IntKind)(n:Int):V.cond (.int k n)=True:=rfl
theorem vc_str(l:List UInt8):V.cond (.str l)=True:=rfl
theorem vc_nilS:V.cond .nilS=True:=rfl
theorem vc_sl(b o l s:Nat)(k:Option Nat):V.cond (.sl b o l s k)=True:=rfl
theorem vc_fs(cs:List V)(n:Nat):V.cond (.fs cs n)=True:=rfl
theorem vc_nilP:V.cond .nilP=True:=rfl
theorem vc_ptr(b o:Nat):V.cond (.ptr b o)=True:=rfl
theorem vc_fp(cs:List V):V.cond (.fp cs)=True:=rfl
theorem vc_nilM:V.cond .nilM=True:=rfl
theorem vc_map(b:Nat):V.cond (.map b)=True:=rfl
theorem vc_fn(f:FuncId)(cs:List V):V.cond (.fn f cs)=True:=rfl
theorem vc_nilF:V.cond .nilF=True:=rfl
theorem vc_ifc(t:TypeId)(v:V):V.cond (.ifc t v)=True:=rfl
theorem vc_nilI:V.cond .nilI=True:=rfl
theorem vc_agg(cs:List V):V.cond (.agg cs)=True:=rfl
theorem vc_tup(cs:List V):V.cond (.tup cs)=True:=rfl
theorem vc_any:V.cond .any=True:=rfl
theorem vc_opt(b:Bool)(v:V):V.cond (.opt b v)=(b=true):=rfl
theorem vv_bool(b:Bool):V.val (.bool b)=.bool b:=rfl
theorem vv_int(k:IntKind)(n:Int):V.val (.int k n)=.int k n:=rfl
theorem vv_str(l:List UInt8):V.val (.str l)=.str l:=rfl
theorem vv_nilS:V.val .nilS=.nilS:=rfl
theorem vv_sl(b o l s:Nat)(k:Option Nat):V.val (.sl b o l s k)=.sl b o l s k:=rfl
theorem vv_fs(cs:List V)(n:Nat):V.val (.fs cs n)=.fs cs n:=rfl
theorem vv_nilP:V.val .nilP=.nilP:=rfl
theorem vv_ptr(b o:Nat):V.val (.ptr b o)=.ptr b o:=rfl
theorem vv_fp(cs:List V):V.val (.fp cs)=.fp cs:=rfl
theorem vv_nilM:V.val .nilM=.nilM:=rfl
theorem vv_map(b:Nat):V.val (.map b)=.map b:=rfl
theorem vv_fn(f:FuncId)(cs:List V):V.val (.fn f cs)=.fn f cs:=rfl
theorem vv_nilF:V.val .nilF=.nilF:=rfl
theorem vv_ifc(t:TypeId)(v:V):V.val (.ifc t v)=.ifc t v:=rfl
theorem vv_nilI:V.val .nilI=.nilI:=rfl
theorem vv_agg(cs:List V):V.val (.agg cs)=.agg cs:=rfl
theorem vv_tup(cs:List V):V.val (.tup cs)=.tup cs:=rfl
theorem vv_any:V.val .any=.any:=rfl
theorem vv_opt(b:Bool)(v:V):V.val (.opt b v)=v:=rfl
def delE(t:Nat)(env:Env):Env:=env.filter fun p=>p.1 != t
theorem delE_nil(t:Nat):delE t []=[]:=rfl
theorem zvi(t k:Nat)(v:V)(r:Env):delE t ((k,v)::r)=bif k==t then delE t r else(k,v)::delE t r:=by
 unfold delE;rw [List.filter_cons];by_cases h:k=t
 ·subst h;simp
 ·have h1:(k==t)=false:=by simp [h]
  have h2:(k != t)=true:=by simp [h]
  simp [h1];intro e;exact absurd e h
theorem zsq(keep:Nat→Bool):zb2 keep []=[]:=rfl
theorem zpv(keep:Nat→Bool)(t:Nat)(v:V)(r:Env):zb2 keep ((t,v)::r)=bif keep t then(t,v)::delE t (zb2 keep r)else zb2 keep r:=by rw [zb2];cases keep t<;>rfl
def za9:List Nat→Nat→Bool
 |[],_=>false
 |k::r,t=>(t==k)||za9 r t
theorem zuD(t:Nat):za9 [] t=false:=rfl
theorem zqD(k:Nat)(r:List Nat)(t:Nat):za9 (k::r) t=((t==k)||za9 r t):=rfl
theorem trim_mk(keep:Nat→Bool)(env:Env)(h:Hp):St.trim ⟨env,h⟩ keep=⟨zb2 keep env,h⟩:=rfl
def zaE:List (Nat×Blk)→Nat→Option Blk
 |[],_=>none
 |(k,x)::r,b=>bif b==k then some x else zaE r b
theorem zuh(b:Nat):zaE [] b=none:=rfl
theorem zhJ(k:Nat)(x:Blk)(r:List (Nat×Blk))(b:Nat):zaE ((k,x)::r) b=bif b==k then some x else zaE r b:=rfl
theorem zcl:∀(bs:List (Nat×Blk)) (b:Nat),bs.lookup b=zaE bs b
 |[],_=>rfl
 |(k,v)::r,b=>by rw [List.lookup_cons,zhJ, ←zcl r b];cases b==k<;>rfl
theorem zbg(bs:List (Nat×Blk))(n b:Nat):Hp.get ⟨bs,n⟩ b=zaE bs b:=zcl bs b
def putB:List (Nat×Blk)→Nat→Blk→List (Nat×Blk)
 |[],_,_=>[]
 |(k,y)::r,b,x=>(bif k==b then(k,x)else(k,y))::putB r b x
theorem putB_nil(b:Nat)(x:Blk):putB [] b x=[]:=rfl
theorem zku(k:Nat)(y:Blk)(r:List (Nat×Blk))(b:Nat)(x:Blk):putB ((k,y)::r) b x=(bif k==b then(k,x)else(k,y))::putB r b x:=rfl
theorem ztr:∀(bs:List (Nat×Blk)) (b:Nat) (x:Blk),(bs.map fun p=>if p.1==b then(p.1,x)else p)=putB bs b x
 |[],_,_=>rfl
 |(k,v)::r,b,x=>by rw [List.map_cons,zku,ztr r b x];cases h:k==b<;>simp_all
theorem put_mk(bs:List (Nat×Blk))(n b:Nat)(x:Blk):Hp.put ⟨bs,n⟩ b x=⟨putB bs b x,n⟩:=by rw [←ztr];rfl
def zjh:List (Nat×Blk)→Nat→List (Nat×Blk)
 |[],_=>[]
 |(k,y)::r,b=>bif k==b then zjh r b else(k,y)::zjh r b
theorem zuz(b:Nat):zjh [] b=[]:=rfl
theorem zhM(k:Nat)(y:Blk)(r:List (Nat×Blk))(b:Nat):zjh ((k,y)::r) b=bif k==b then zjh r b else(k,y)::zjh r b:=rfl
theorem zow:∀(bs:List (Nat×Blk)) (b:Nat),(bs.filter fun p=>p.1 != b)=zjh bs b
 |[],_=>rfl
 |(k,v)::r,b=>by rw [List.filter_cons,zhM, ←zow r b];cases h:k==b<;>simp_all
theorem zuy(bs:List (Nat×Blk))(n b:Nat):Hp.kill ⟨bs,n⟩ b=⟨zjh bs b,n⟩:=by rw [←zow];rfl
theorem new_mk(bs:List (Nat×Blk))(n:Nat)(x:Blk):Hp.new ⟨bs,n⟩ x=⟨(n,x)::bs,n+1⟩:=rfl
inductive Fr where
 |seq (y:Code)
 |sem (y:Code)
 |block (id:Nat)
def unst(C:Cfg)(P:Program)(K:Out→St→Prop):List Fr→Out→St→Prop
 |[]=>K
 | .seq y::st=>zfo (fun s=>AXf C P y s (unst C P K st)) (unst C P K st)
 | .sem y::st=>zfo (fun s=>AX C P y s (unst C P K st)) (unst C P K st)
 | .block i::st=>zpc i (unst C P K st)
theorem zbB(K:Out→St→Prop)(v:V)(s:St):∀ st,unst C P K st (.panic v) s=K (.panic v) s
 |[]=>rfl
 | .seq _::st=>zbB K v s st
 | .sem _::st=>zbB K v s st
 | .block _::st=>zbB K v s st
def AXs(C:Cfg)(P:Program)(K:Out→St→Prop)(st:List Fr)(c:Code)(env:Env)(h:Hp):Prop:=AXf C P c ⟨env,h⟩ (unst C P K st)
def AXc(C:Cfg)(P:Program)(K:Out→St→Prop)(st:List Fr)(x y:Code)(b:V)(env:Env)(h:Hp):Prop:=
 match b with
 | .bool b=>if b=true then AXs C P K st x env h else AXs C P K st y env h
 |_=>False
def AXt(C:Cfg)(P:Program)(K:Out→St→Prop)(st:List Fr)(env:Env)(h:Hp):Prop:=AXs C P K st .skip env h
def AXr(C:Cfg)(P:Program)(K:Out→St→Prop)(st:List Fr)(ops:Array Oper)(os:List Oper)(env:Env)(h:Hp):Prop:=ARun C P ops os ⟨env,h⟩ (zbz C.keep (unst C P K st))
def AXf1(C:Cfg)(P:Program)(K:Out→St→Prop)(st:List Fr)(ops:Array Oper)(os:List Oper)(d:Option Tmp)(r:SR)(env:Env)(h:Hp):Prop:=
 fol C r (fun v h' _=>ARun C P ops os (((⟨env,h⟩:St).put d v).hp h') (zbz C.keep (unst C P K st))) (fun v=>zbz C.keep (unst C P K st) (.panic v) ⟨env,h⟩)
def AXg1(C:Cfg)(P:Program)(K:Out→St→Prop)(st:List Fr)(ops:Array Oper)(os:List Oper)(d:Option Tmp)(gb:Option Bool)(r:SR)(env:Env)(h:Hp):Prop:=
 match gb with
 |some gb=>folG C gb r h (fun v h' _=>ARun C P ops os (((⟨env,h⟩:St).put d v).hp h') (zbz C.keep (unst C P K st))) (fun v=>zbz C.keep (unst C P K st) (.panic v) ⟨env,h⟩)
 |none=>False
def AXd(C:Cfg)(P:Program)(K:Out→St→Prop)(st:List Fr)(ops:Array Oper)(os:List Oper)(i:Nat)(acc:List (Nat×Foot))(env:Env)(h:Hp):Prop:=DRun C P ops os i ⟨env,h⟩ acc (zbz C.keep (unst C P K st))
def AXf2(C:Cfg)(P:Program)(K:Out→St→Prop)(st:List Fr)(ops:Array Oper)(os:List Oper)(i:Nat)(d:Option Tmp)(r:SR)(acc:List (Nat×Foot))(env:Env)(h:Hp):Prop:=
 fol C r (fun v h' f=>DRun C P ops os (i+1) (((⟨env,h⟩:St).put d v).hp h') (accF acc i f) (zbz C.keep (unst C P K st))) (fun v=>zdl ops i=true∧chk ops acc=true∧zbz C.keep (unst C P K st) (.panic v) ⟨env,h⟩)
def AXg2(C:Cfg)(P:Program)(K:Out→St→Prop)(st:List Fr)(ops:Array Oper)(os:List Oper)(i:Nat)(d:Option Tmp)(gb:Option Bool)(r:SR)(acc:List (Nat×Foot))(env:Env)(h:Hp):Prop:=
 match gb with
 |some gb=>folG C gb r h (fun v h' f=>DRun C P ops os (i+1) (((⟨env,h⟩:St).put d v).hp h') (accF acc i f) (zbz C.keep (unst C P K st))) (fun v=>zdl ops i=true∧chk ops acc=true∧zbz C.keep (unst C P K st) (.panic v) ⟨env,h⟩)
 |none=>False
def AXk(C:Cfg)(P:Program)(K:Out→St→Prop)(st:List Fr)(ops:Array Oper)(acc:List (Nat×Foot))(env:Env)(h:Hp):Prop:=chk ops acc=true∧AXt C P K st (zb2 C.keep env) h
variable {K:Out→St→Prop}{st:List Fr}{ops:Array Oper}{os:List Oper}{env:Env}{h:Hp}
@[congr] theorem AXs_congr {c:Code}{env':Env}{h':Hp}(e:env=env')(e':h=h'):AXs C P K st c env h=AXs C P K st c env' h':=by rw [e,e']
@[congr] theorem AXc_congr {x y:Code}{b b':V}{env':Env}{h':Hp}(eb:b=b')(e:env=env')(e':h=h'):AXc C P K st x y b env h=AXc C P K st x y b' env' h':=by rw [eb,e,e']
@[congr] theorem AXt_congr {env':Env}{h':Hp}(e:env=env')(e':h=h'):AXt C P K st env h=AXt C P K st env' h':=by rw [e,e']
@[congr] theorem AXf1_congr {d:Option Tmp}{r r':SR}(e:r=r'):AXf1 C P K st ops os d r env h=AXf1 C P K st ops os d r' env h:=by rw [e]
@[congr] theorem AXg1_congr {d:Option Tmp}{gb gb':Option Bool}{r r':SR}(eb:gb=gb')(e:r=r'):AXg1 C P K st ops os d gb r env h=AXg1 C P K st ops os d gb' r' env h:=by rw [e,eb]
@[congr] theorem AXf2_congr {i:Nat}{d:Option Tmp}{r r':SR}{acc:List (Nat×Foot)}(e:r=r'):AXf2 C P K st ops os i d r acc env h=AXf2 C P K st ops os i d r' acc env h:=by rw [e]
@[congr] theorem AXg2_congr {i:Nat}{d:Option Tmp}{gb gb':Option Bool}{r r':SR}{acc:List (Nat×Foot)}(eb:gb=gb')(e:r=r'):AXg2 C P K st ops os i d gb r acc env h=AXg2 C P K st ops os i d gb' r' acc env h:=by rw [e,eb]
@[congr] theorem AXk_congr {acc acc':List (Nat×Foot)}(ea:acc=acc'):AXk C P K st ops acc env h=AXk C P K st ops acc' env h:=by rw [ea]
theorem AXs.of {c:Code}{s:St}(h:AXs C P K [] c s.env s.h):AXf C P c s K:=h
def AXp(C:Cfg)(P:Program)(K:Out→St→Prop)(st:List Fr)(x y:Code)(b:Bool)(env:Env)(h:Hp):Prop:=AXs C P K ((if b=true then .sem y else .seq y)::st) x env h
theorem axs_seq(x y:Code):AXs C P K st (.seq x y) env h=AXp C P K st x y (zbb x) env h:=by unfold AXp AXs;rw [AXf];cases zbb x<;>rfl
theorem zwO(x y:Code):AXp C P K st x y false env h=AXs C P K (.seq y::st) x env h:=rfl
theorem axp_true(x y:Code):AXp C P K st x y true env h=AXs C P K (.sem y::st) x env h:=rfl
theorem zmR(x:Code):zbb (.loop x)=true:=rfl
theorem zkT(i:Nat)(x:Code):zbb (.block i x)=zbb x:=rfl
theorem zqF(x y:Code):zbb (.seq x y)=zbb y:=rfl
theorem zmT(c:Operand)(x y:Code):zbb (.cond c x y)=(zbb x||zbb y):=rfl
theorem zjl(i:Nat)(o:Array Oper)(d:Bool):zbb (.region i o d)=false:=rfl
theorem zmQ:zbb .skip=false:=rfl
theorem zqG:zbb .ret=false:=rfl
theorem zmS(i:Nat):zbb (.exit i)=false:=rfl
def AXa(C:Cfg)(P:Program)(K:Out→St→Prop)(st:List Fr)(y:Code)(env:Env)(h:Hp):Prop:=AX C P y ⟨env,h⟩ (unst C P K st)
theorem zlO(y:Code):AXs C P K (.sem y::st) .skip env h=AXa C P K st y env h:=rfl
theorem zlR(i:Nat)(y:Code):AXs C P K (.sem y::st) (.exit i) env h=AXs C P K st (.exit i) env h:=rfl
theorem znC(y:Code):AXs C P K (.sem y::st) .ret env h=AXs C P K st .ret env h:=rfl
theorem AXa.go {y:Code}(hm:P.follows .mixedOrders=true)(hΓ:∀ f args r,C.Γ f args=some r→PCall P f args r)(hΔ:∀ f args H r,C.Δ f args H=some r→HCall P f args H r)(hok:zae C.nt y=true)(hx:AXs C P K st y env h):AXa C P K st y env h:=
 zcr hm ⟨hΓ,hΔ⟩ y _ _ hok hx
theorem AXa.sub {y:Code}{env':Env}{h':Hp}(hs:Sub C ⟨env,h⟩ ⟨env',h'⟩)(hx:AXa C P K st y env' h'):AXa C P K st y env h:=AX.sub hs hx
theorem AXa.freeze {y:Code}{env':Env}{h':Hp}{F:Nat→Prop}(hW:C.Wm=[])(hs:Fz C.nx F ⟨env,h⟩ ⟨env',h'⟩)(hx:AXa C P K st y env' h'):AXa C P K st y env h:=AX.freeze hW hs hx
theorem zwM(i:Nat)(x:Code):AXs C P K st (.block i x) env h=AXs C P K (.block i::st) x env h:=rfl
theorem zlN(y:Code):AXs C P K (.seq y::st) .skip env h=AXs C P K st y env h:=rfl
theorem zhl(i:Nat):AXs C P K (.block i::st) .skip env h=AXs C P K st .skip env h:=rfl
theorem zlP:AXs C P K [] .skip env h=K .norm ⟨env,h⟩:=rfl
theorem zlQ(i:Nat)(y:Code):AXs C P K (.seq y::st) (.exit i) env h=AXs C P K st (.exit i) env h:=rfl
theorem zhm(i j:Nat):AXs C P K (.block j::st) (.exit i) env h=if i=j then AXs C P K st .skip env h else AXs C P K st (.exit i) env h:=rfl
theorem zlS(i:Nat):AXs C P K [] (.exit i) env h=K (.exit i) ⟨env,h⟩:=rfl
theorem znB(y:Code):AXs C P K (.seq y::st) .ret env h=AXs C P K st .ret env h:=rfl
theorem zjP(i:Nat):AXs C P K (.block i::st) .ret env h=AXs C P K st .ret env h:=rfl
theorem znD:AXs C P K [] .ret env h=K .ret ⟨env,h⟩:=rfl
theorem axs_cond(c:Operand)(x y:Code):AXs C P K st (.cond c x y) env h=AXc C P K st x y (ev env c) env h:=by unfold AXs AXc AXf;rfl
def AXm(C:Cfg)(P:Program)(K:Out→St→Prop)(st:List Fr)(os:List Oper)(n:Option (Option Tmp×Operand×List Oper))(env:Env)(h:Hp):Prop:=ARunN C P ⟨os⟩ n ⟨env,h⟩ (zbz C.keep (unst C P K st))
def AXw(C:Cfg)(P:Program)(K:Out→St→Prop)(st:List Fr)(ops:Array Oper)(os:List Oper)(d:Option Tmp)(c:Prop)(x:V)(env:Env)(h:Hp):Prop:=ANext C P ops os d c (zh9 x h) ⟨env,h⟩ (zbz C.keep (unst C P K st))
def AXl(C:Cfg)(P:Program)(K:Out→St→Prop)(st:List Fr)(os:List Oper)(n:Option (Nat×Op×Nat))(env:Env)(h:Hp):Prop:=DRunN C P ⟨os⟩ n ⟨env,h⟩ (zbz C.keep (unst C P K st))
def AXe(C:Cfg)(P:Program)(K:Out→St→Prop)(st:List Fr)(ops:Array Oper)(i0:Nat)(op0:Op)(j0:Nat)(os:List Oper)(i:Nat)(acc:List (Nat×Foot))(r:Option LK)(env:Env)(h:Hp):Prop:=
 zxB C P ops i0 op0 j0 os i ⟨env,h⟩ acc r (zbz C.keep (unst C P K st))
def lateA(b:Bool)(W:List Nat)(h' h:Hp):Prop:=match b with|true=>W=[]∧h'=h|false=>True
def lateB1(b:Bool)(C:Cfg)(P:Program)(op0:Op)(r:Option LK)(h:Hp)(f:Foot):Prop:=match b with|true=>(match r with|some r=>zpd C P op0 r h f|none=>False)|false=>True
def lateR(b:Bool)(env:Env)(h:Hp)(v:V)(f:Foot)(r:Option LK):Option LK:=match b with|true=>some ⟨⟨env,h⟩,v,f⟩|false=>r
theorem axs_run(i:Nat)(os:List Oper):AXs C P K st (.region i ⟨os⟩ false) env h=AXm C P K st os (zek os) env h:=rfl
theorem axs_draw(i:Nat)(os:List Oper):AXs C P K st (.region i ⟨os⟩ true) env h=AXl C P K st os (zen os) env h:=rfl
theorem axm_none:AXm C P K st os none env h=AXr C P K st ⟨os⟩ os env h:=rfl
theorem axm_some(d:Option Tmp)(it:Operand)(r:List Oper):AXm C P K st os (some (d,it,r)) env h=AXw C P K st ⟨os⟩ r d (ev env it).cond (rho env it) env h:=rfl
theorem axl_none:AXl C P K st os none env h=AXd C P K st ⟨os⟩ os 0 [] env h:=rfl
theorem axl_some(i0:Nat)(op0:Op)(j0:Nat):AXl C P K st os (some (i0,op0,j0)) env h=AXe C P K st ⟨os⟩ i0 op0 j0 os 0 [] none env h:=rfl
theorem zqc:zek []=none:=rfl
def zK:Op→Bool
 | .next _ _=>false
 |_=>true
def nextX:=@zek
theorem zqb(dst:Option Tmp)(it:Operand)(type:TypeId)(pos:String)(after:Array Edge)(r:List Oper):nextX ({ dst,op:=.next it false,type,pos,after,guard:=none }::r)=some (dst,it,r):=rfl
theorem zkB(a b):zK (.next a b)=false:=rfl
theorem zmH(dst:Option Tmp)(op:Op)(type:TypeId)(pos:String)(after:Array Edge)(g:Option (Nat×Bool))(r:List Oper):zek ({ dst,op,type,pos,after,guard:=g }::r)=bif zK op then none else nextX ({ dst,op,type,pos,after,guard:=g }::r):=by
 cases h:zK op with
 |false=>rfl
 |true=>
  unfold zek;cases op<;>first|rfl|cases h
theorem zuN(a):isEn (.move a)=false:=rfl
theorem zuI(a):isLk (.move a)=false:=rfl
theorem zkC(a):zK (.move a)=true:=rfl
theorem zmZ(a):isEn (.assign a)=false:=rfl
theorem zmW(a):isLk (.assign a)=false:=rfl
theorem zg5(a):zK (.assign a)=true:=rfl
theorem zuM(a)(b)(c):isEn (.pick a b c)=false:=rfl
theorem zuH(a)(b)(c):isLk (.pick a b c)=false:=rfl
theorem zkA(a)(b)(c):zK (.pick a b c)=true:=rfl
theorem zq4(a):isEn (.alloc a)=false:=rfl
theorem zqS(a):isLk (.alloc a)=false:=rfl
theorem zja(a):zK (.alloc a)=true:=rfl
theorem isEn_box(a)(b):isEn (.box a b)=false:=rfl
theorem isLk_box(a)(b):isLk (.box a b)=false:=rfl
theorem zmF(a)(b):zK (.box a b)=true:=rfl
theorem zq2(a)(b):isEn (.build a b)=false:=rfl
theorem zqQ(a)(b):isLk (.build a b)=false:=rfl
theorem zi8(a)(b):zK (.build a b)=true:=rfl
theorem zgt(a)(b)(c):isEn (.buildSlice a b c)=false:=rfl
theorem zgq(a)(b)(c):isLk (.buildSlice a b c)=false:=rfl
theorem zej(a)(b)(c):zK (.buildSlice a b c)=true:=rfl
theorem zmY(a)(b)(c)(d):isEn (.insert a b c d)=false:=rfl
theorem zmV(a)(b)(c)(d):isLk (.insert a b c d)=false:=rfl
theorem zg4(a)(b)(c)(d):zK (.insert a b c d)=true:=rfl
theorem zuO(a)(b):isEn (.load a b)=false:=rfl
theorem zuJ(a)(b):isLk (.load a b)=false:=rfl
theorem zkD(a)(b):zK (.load a b)=true:=rfl
theorem zqU(a)(b)(c):isEn (.store a b c)=false:=rfl
theorem zqI(a)(b)(c):isLk (.store a b c)=false:=rfl
theorem zi0(a)(b)(c):zK (.store a b c)=true:=rfl
theorem zqW(a):isEn (.ready a)=false:=rfl
theorem zqK(a):isLk (.ready a)=false:=rfl
theorem zi2(a):zK (.ready a)=true:=rfl
theorem zqT(a):isEn (.waits a)=false:=rfl
theorem zqH(a):isLk (.waits a)=false:=rfl
theorem ziZ(a):zK (.waits a)=true:=rfl
theorem zjr(a):isEn (.nilCheck a)=false:=rfl
theorem zjm(a):isLk (.nilCheck a)=false:=rfl
theorem zfj(a):zK (.nilCheck a)=true:=rfl
theorem zq3(a)(b)(c)(d)(e):isEn (.binOp a b c d e)=false:=rfl
theorem zqR(a)(b)(c)(d)(e):isLk (.binOp a b c d e)=false:=rfl
theorem zi9(a)(b)(c)(d)(e):zK (.binOp a b c d e)=true:=rfl
theorem zuL(a)(b)(c):isEn (.unOp a b c)=false:=rfl
theorem zuG(a)(b)(c):isLk (.unOp a b c)=false:=rfl
theorem zkz(a)(b)(c):zK (.unOp a b c)=true:=rfl
theorem zk1(a)(b)(c):isEn (.convert a b c)=false:=rfl
theorem zkX(a)(b)(c):isLk (.convert a b c)=false:=rfl
theorem zge(a)(b)(c):zK (.convert a b c)=true:=rfl
theorem zcE(a)(b):isEn (.sliceToArrayPointer a b)=false:=rfl
theorem zcD(a)(b):isLk (.sliceToArrayPointer a b)=false:=rfl
theorem zb8(a)(b):zK (.sliceToArrayPointer a b)=true:=rfl
theorem zer(a)(b):isEn (.makeInterface a b)=false:=rfl
theorem zeq(a)(b):isLk (.makeInterface a b)=false:=rfl
theorem zdm(a)(b):zK (.makeInterface a b)=true:=rfl
theorem zjt(a)(b)(c):isEn (.makeFunc a b c)=false:=rfl
theorem zjo(a)(b)(c):isLk (.makeFunc a b c)=false:=rfl
theorem zfl(a)(b)(c):zK (.makeFunc a b c)=true:=rfl
theorem zkZ(a)(b):isEn (.makeMap a b)=false:=rfl
theorem zkU(a)(b):isLk (.makeMap a b)=false:=rfl
theorem zgc(a)(b):zK (.makeMap a b)=true:=rfl
theorem zju(a)(b):isEn (.makeChan a b)=false:=rfl
theorem zjq(a)(b):isLk (.makeChan a b)=false:=rfl
theorem zfm(a)(b):zK (.makeChan a b)=true:=rfl
theorem zhe(a)(b)(c):isEn (.makeSlice a b c)=false:=rfl
theorem zha(a)(b)(c):isLk (.makeSlice a b c)=false:=rfl
theorem zeU(a)(b)(c):zK (.makeSlice a b c)=true:=rfl
theorem zqV(a)(b)(c)(d)(e):isEn (.slice a b c d e)=false:=rfl
theorem zqJ(a)(b)(c)(d)(e):isLk (.slice a b c d e)=false:=rfl
theorem zi1(a)(b)(c)(d)(e):zK (.slice a b c d e)=true:=rfl
theorem zhg(a)(b)(c):isEn (.fieldAddr a b c)=false:=rfl
theorem zhc(a)(b)(c):isLk (.fieldAddr a b c)=false:=rfl
theorem zeW(a)(b)(c):zK (.fieldAddr a b c)=true:=rfl
theorem zq0(a)(b)(c):isEn (.field a b c)=false:=rfl
theorem zqO(a)(b)(c):isLk (.field a b c)=false:=rfl
theorem zi6(a)(b)(c):zK (.field a b c)=true:=rfl
theorem zhf(a)(b)(c):isEn (.indexAddr a b c)=false:=rfl
theorem zhb(a)(b)(c):isLk (.indexAddr a b c)=false:=rfl
theorem zeV(a)(b)(c):zK (.indexAddr a b c)=true:=rfl
theorem zqZ(a)(b)(c):isEn (.index a b c)=false:=rfl
theorem zqN(a)(b)(c):isLk (.index a b c)=false:=rfl
theorem zi5(a)(b)(c):zK (.index a b c)=true:=rfl
theorem zhd(a)(b)(c)(d):isEn (.mapUpdate a b c d)=false:=rfl
theorem zg9(a)(b)(c)(d):isLk (.mapUpdate a b c d)=false:=rfl
theorem zeT(a)(b)(c)(d):zK (.mapUpdate a b c d)=true:=rfl
theorem zjs(a)(b)(c):isEn (.mapEntry a b c)=true:=rfl
theorem zjn(a)(b)(c):isLk (.mapEntry a b c)=false:=rfl
theorem zfk(a)(b)(c):zK (.mapEntry a b c)=true:=rfl
theorem zgs(a)(b)(c)(d):isEn (.entryStore a b c d)=false:=rfl
theorem zgp(a)(b)(c)(d):isLk (.entryStore a b c d)=false:=rfl
theorem zei(a)(b)(c)(d):zK (.entryStore a b c d)=true:=rfl
theorem zqX(a)(b):isEn (.range a b)=false:=rfl
theorem zqL(a)(b):isLk (.range a b)=false:=rfl
theorem zi3(a)(b):zK (.range a b)=true:=rfl
theorem zq1(a):isEn (.entry a)=false:=rfl
theorem zqP(a):isLk (.entry a)=false:=rfl
theorem zi7(a):zK (.entry a)=true:=rfl
theorem zgr(a)(b)(c)(d):isEn (.typeAssert a b c d)=false:=rfl
theorem zgo(a)(b)(c)(d):isLk (.typeAssert a b c d)=false:=rfl
theorem zeh(a)(b)(c)(d):zK (.typeAssert a b c d)=true:=rfl
theorem zk0(a)(b):isEn (.extract a b)=false:=rfl
theorem zkW(a)(b):isLk (.extract a b)=false:=rfl
theorem zgd(a)(b):zK (.extract a b)=true:=rfl
theorem zuP(a):isEn (.call a)=false:=rfl
theorem zuK(a):isLk (.call a)=false:=rfl
theorem zkE(a):zK (.call a)=true:=rfl
theorem zqY(a):isEn (.panic a)=false:=rfl
theorem zqM(a):isLk (.panic a)=false:=rfl
theorem zi4(a):zK (.panic a)=true:=rfl
theorem zmX(a b c d):isEn (.lookup a b c d)=false:=rfl
theorem zmU(a b c):isLk (.lookup a b c false)=true:=rfl
theorem zkV(a b c):isLk (.lookup a b c true)=false:=rfl
theorem zg3(a b c d):zK (.lookup a b c d)=true:=rfl
theorem zmN(os:List Oper):zen os=match zg7 os 0 with|none=>none|some j=>zg8 os 0 none j:=rfl
theorem zuu(j:Nat):zg7 [] j=none:=rfl
theorem zqz(dst:Option Tmp)(op:Op)(type:TypeId)(pos:String)(after:Array Edge)(g:Option (Nat×Bool))(r:List Oper)(j:Nat):zg7 ({ dst,op,type,pos,after,guard:=g }::r) j=bif isEn op then some j else zg7 r (j+1):=by
 show (match isEn op with|true=>_|false=>_)=_;cases isEn op<;>rfl
theorem zuw(i:Nat)(x:Option Op)(j:Nat):zg8 [] i x j=none:=rfl
theorem zo9(x y:Code):AXc C P K st x y (.bool true) env h=AXs C P K st x env h:=by simp [AXc]
theorem zlT(x y:Code):AXc C P K st x y (.bool false) env h=AXs C P K st y env h:=by simp [AXc]
theorem AXc.intro {x y:Code}{b:Bool}(h1:b=true→AXs C P K st x env h)(h2:b=false→AXs C P K st y env h):AXc C P K st x y (.bool b) env h:=by
 cases b with
 |true=>rw [zo9];exact h1 rfl
 |false=>rw [zlT];exact h2 rfl
theorem axt_eq:AXt C P K st env h=AXs C P K st .skip env h:=rfl
theorem axr_nil:AXr C P K st ops [] env h=AXt C P K st (zb2 C.keep env) h:=rfl
theorem axr_cons(dst:Option Tmp)(op:Op)(type:TypeId)(pos:String)(after:Array Edge):
 AXr C P K st ops ({ dst,op,type,pos,after,guard:=none }::os) env h=AXf1 C P K st ops os dst (step1 C P env op h) env h:=rfl
theorem zwV(d:Tmp)(b:Bool)(pre:Prop)(v:V)(h':Hp)(R W:List Nat)(lo hi:Nat):AXf1 C P K st ops os (some d) (.ok b pre v h' ⟨R,W,lo,hi⟩) env h=(pre∧wok C W=true∧AXr C P K st ops os ((d,v)::env) h'):=rfl
theorem zwW(b:Bool)(pre:Prop)(v:V)(h':Hp)(R W:List Nat)(lo hi:Nat):AXf1 C P K st ops os none (.ok b pre v h' ⟨R,W,lo,hi⟩) env h=(pre∧wok C W=true∧AXr C P K st ops os env h'):=rfl
theorem axf1_pan(d:Option Tmp)(pre:Prop)(v:V)(R:List Nat):AXf1 C P K st ops os d (.pan pre v R) env h=(pre∧K (.panic v) ⟨env,h⟩):=by show (pre∧unst C P K st (.panic v) _)=_;rw [zbB]
def getO:List Oper→Nat→Option Tmp
 |[],_=>none
 |o::r,i=>bif i==0 then o.dst else getO r (i - 1)
theorem zk7(o:Oper)(r:List Oper)(i:Nat):getO (o::r) i=bif i==0 then o.dst else getO r (i - 1):=rfl
theorem zuV:∀(os:List Oper) (i:Nat),(os[i]?).bind (·.dst)=getO os i
 |[],_=>rfl
 |o::r,0=>rfl
 |o::r,i+1=>by rw [List.getElem?_cons_succ,zuV r i,zk7];rfl
def ze7(v:V)(want:Bool):Option Bool:=
 match v with
 | .bool b=>some (b==want)
 | .opt c (.bool b)=>some (c&&(b==want))
 | .opt false _=>some false
 | .tup []=>some false
 |_=>none
theorem guardV_t(b:Bool):ze7 (.bool b) true=some b:=by cases b<;>rfl
theorem guardV_f(b:Bool):ze7 (.bool b) false=some (!b):=by cases b<;>rfl
theorem zuT(c b:Bool):ze7 (.opt c (.bool b)) true=some (c&&b):=by cases b<;>rfl
theorem zuU(c b:Bool):ze7 (.opt c (.bool b)) false=some (c&& !b):=by cases b<;>rfl
def zk6(o:Option Tmp)(env:Env)(want:Bool):Option Bool:=
 match o with
 |some d=>ze7 (zdd env d) want
 |none=>none
theorem zm3(d:Tmp)(env:Env)(want:Bool):zk6 (some d) env want=ze7 (zdd env d) want:=rfl
theorem zuS(os:List Oper)(env:Env)(o:Oper)(j:Nat)(want:Bool)(hg:o.guard=some (j,want)):gval ⟨os⟩ env o=zk6 (getO os j) env want:=by
 unfold gval;rw [hg];have e:((⟨os⟩:Array Oper)[j]?).bind (·.dst)=getO os j:=by rw [←zuV];simp
 simp only [e];unfold zk6;cases hd:getO os j with
 |none=>rfl
 |some d=>
  simp only [];rw [←zcU];cases env.lookup d with
  |none=>rfl
  |some v=>
   cases v with
   |opt c v=>cases v<;>cases c<;>rfl
   |tup l=>cases l<;>rfl
   |_=>rfl
theorem zwN(os0:List Oper)(dst:Option Tmp)(op:Op)(type:TypeId)(pos:String)(after:Array Edge)(j:Nat)(want:Bool):
 AXr C P K st ⟨os0⟩ ({ dst,op,type,pos,after,guard:=some (j,want) }::os) env h=AXg1 C P K st ⟨os0⟩ os dst (zk6 (getO os0 j) env want) (step1 C P env op h) env h:=by
 rw [←zuS os0 env { dst,op,type,pos,after,guard:=some (j,want) } j want rfl]
 unfold AXr AXg1
 rfl
theorem zwQ(d:Tmp)(gb:Bool)(pre:Prop)(v:V)(h':Hp)(R W:List Nat)(lo hi:Nat):AXg1 C P K st ops os (some d) (some gb) (.ok true pre v h' ⟨R,W,lo,hi⟩) env h=((gb=true→pre)∧AXr C P K st ops os ((d,.opt gb v)::env) h):=rfl
theorem zwR(gb:Bool)(pre:Prop)(v:V)(h':Hp)(R W:List Nat)(lo hi:Nat):AXg1 C P K st ops os none (some gb) (.ok true pre v h' ⟨R,W,lo,hi⟩) env h=((gb=true→pre)∧AXr C P K st ops os env h):=rfl
theorem AXg1.pan {d:Tmp}{gb:Bool}{pre:Prop}{v:V}{R:List Nat}(h1:gb=true→pre∧K (.panic v) ⟨env,h⟩)(h2:gb=false→AXr C P K st ops os ((d,undefV)::env) h):AXg1 C P K st ops os (some d) (some gb) (.pan pre v R) env h:=by
 show (if gb=true then(pre∧unst C P K st (.panic v) _)else _);cases gb with
 |true=>rw [if_pos rfl,zbB];exact h1 rfl
 |false=>rw [if_neg (by simp)];exact h2 rfl
theorem axd_nil(i:Nat)(acc:List (Nat×Foot)):AXd C P K st ops [] i acc env h=AXk C P K st ops acc env h:=rfl
theorem axd_cons(dst:Option Tmp)(op:Op)(type:TypeId)(pos:String)(after:Array Edge)(i:Nat)(acc:List (Nat×Foot)):
 AXd C P K st ops ({ dst,op,type,pos,after,guard:=none }::os) i acc env h=AXf2 C P K st ops os i dst (step1 C P env op h) acc env h:=rfl
theorem zwX(os0:List Oper)(dst:Option Tmp)(op:Op)(type:TypeId)(pos:String)(after:Array Edge)(j:Nat)(want:Bool)(i:Nat)(acc:List (Nat×Foot)):
 AXd C P K st ⟨os0⟩ ({ dst,op,type,pos,after,guard:=some (j,want) }::os) i acc env h=AXg2 C P K st ⟨os0⟩ os i dst (zk6 (getO os0 j) env want) (step1 C P env op h) acc env h:=by
 rw [←zuS os0 env { dst,op,type,pos,after,guard:=some (j,want) } j want rfl]
 unfold AXd AXg2
 rfl
def accM(acc:List (Nat×Foot))(i:Nat)(R W:List Nat)(lo hi:Nat):List (Nat×Foot):=bif R.isEmpty&&W.isEmpty&&lo==hi then acc else(i,⟨R,W,lo,hi⟩)::acc
theorem znH(acc:List (Nat×Foot))(i:Nat)(R W:List Nat)(lo hi:Nat):accF acc i ⟨R,W,lo,hi⟩=accM acc i R W lo hi:=by unfold accF Foot.idle accM;cases (R.isEmpty&&W.isEmpty&&lo==hi)<;>rfl
theorem zw6(acc:List (Nat×Foot))(i lo hi:Nat):accM acc i [] [] lo hi=bif lo==hi then acc else(i,⟨[],[],lo,hi⟩)::acc:=rfl
theorem accM_r(acc:List (Nat×Foot))(i b:Nat)(R W:List Nat)(lo hi:Nat):accM acc i (b::R) W lo hi=(i,⟨b::R,W,lo,hi⟩)::acc:=rfl
theorem accM_w(acc:List (Nat×Foot))(i b:Nat)(W:List Nat)(lo hi:Nat):accM acc i [] (b::W) lo hi=(i,⟨[],b::W,lo,hi⟩)::acc:=rfl
theorem zwT(i:Nat)(d:Tmp)(b:Bool)(pre:Prop)(v:V)(h':Hp)(R W:List Nat)(lo hi:Nat)(acc:List (Nat×Foot)):AXf2 C P K st ops os i (some d) (.ok b pre v h' ⟨R,W,lo,hi⟩) acc env h=
 (pre∧wok C W=true∧AXd C P K st ops os (i+1) (accM acc i R W lo hi) ((d,v)::env) h'):=by rw [←znH];rfl
theorem zwU(i:Nat)(b:Bool)(pre:Prop)(v:V)(h':Hp)(R W:List Nat)(lo hi:Nat)(acc:List (Nat×Foot)):AXf2 C P K st ops os i none (.ok b pre v h' ⟨R,W,lo,hi⟩) acc env h=
 (pre∧wok C W=true∧AXd C P K st ops os (i+1) (accM acc i R W lo hi) env h'):=by rw [←znH];rfl
theorem axe_nil(i0:Nat)(op0:Op)(j0:Nat)(i:Nat)(acc:List (Nat×Foot))(l:Option LK):AXe C P K st ops i0 op0 j0 [] i acc l env h=(chkX ops i0 j0 acc=true∧AXt C P K st (zb2 C.keep env) h):=rfl
theorem lateA_f(W:List Nat)(h' h:Hp):lateA false W h' h=True:=rfl
theorem lateA_t(W:List Nat)(h' h:Hp):lateA true W h' h=(W=[]∧h'=h):=rfl
theorem lateB_f(op0:Op)(r:Option LK)(h:Hp)(f:Foot):lateB1 false C P op0 r h f=True:=rfl
theorem lateR_f(env:Env)(h:Hp)(v:V)(f:Foot)(r:Option LK):lateR false env h v f r=r:=rfl
theorem lateR_t(env:Env)(h:Hp)(v:V)(f:Foot)(r:Option LK):lateR true env h v f r=some ⟨⟨env,h⟩,v,f⟩:=rfl
theorem lateK_ok(b:Bool)(pre:Prop)(v v':V)(h h':Hp)(f f':Foot):LateK (.ok b pre v' h' f') h v f=(pre∧v'=v∧h'=h∧f'=f):=rfl
theorem axf2_pan(i:Nat)(d:Option Tmp)(pre:Prop)(v:V)(R:List Nat)(acc:List (Nat×Foot)):AXf2 C P K st ops os i d (.pan pre v R) acc env h=(pre∧zdl ops i=true∧chk ops acc=true∧K (.panic v) ⟨env,h⟩):=by show (pre∧zdl ops i=true∧chk ops acc=true∧unst C P K st (.panic v) _)=_;rw [zbB]
theorem zwP(i:Nat)(d:Tmp)(gb:Bool)(pre:Prop)(v:V)(h':Hp)(R W:List Nat)(lo hi:Nat)(acc:List (Nat×Foot)):AXg2 C P K st ops os i (some d) (some gb) (.ok true pre v h' ⟨R,W,lo,hi⟩) acc env h=
 ((gb=true→pre)∧AXd C P K st ops os (i+1) (accM acc i R [] 0 0) ((d,.opt gb v)::env) h):=by rw [←znH];rfl
theorem AXg2.pan {i:Nat}{d:Tmp}{gb:Bool}{pre:Prop}{v:V}{R:List Nat}{acc:List (Nat×Foot)}(h1:gb=true→pre∧zdl ops i=true∧chk ops acc=true∧K (.panic v) ⟨env,h⟩)
 (h2:gb=false→AXd C P K st ops os (i+1) (accF acc i ⟨[],[],0,0⟩) ((d,undefV)::env) h):AXg2 C P K st ops os i (some d) (some gb) (.pan pre v R) acc env h:=by
 show (if gb=true then(pre∧zdl ops i=true∧chk ops acc=true∧unst C P K st (.panic v) _)else _)
 cases gb with
 |true=>rw [if_pos rfl,zbB];exact h1 rfl
 |false=>rw [if_neg (by simp)];exact h2 rfl
theorem axk_nil:AXk C P K st ops [] env h=AXt C P K st (zb2 C.keep env) h:=by show (chk ops []=true∧_)=_;simp [chk]
theorem AXk.intro {acc:List (Nat×Foot)}(h1:chk ops acc=true)(h2:AXt C P K st (zb2 C.keep env) h):AXk C P K st ops acc env h:=⟨h1,h2⟩
def zn1:List (Nat×Foot)→Bool
 |[]=>true
 |(_,f)::r=>f.still&&zn1 r
theorem zpA:zn1 []=true:=rfl
theorem zl8(i:Nat)(R W:List Nat)(lo hi:Nat)(r:List (Nat×Foot)):zn1 ((i,⟨R,W,lo,hi⟩)::r)=(W.isEmpty&&lo==hi&&zn1 r):=rfl
theorem wok_nil:wok C []=true:=rfl
theorem wok_cons(b:Nat)(W:List Nat):wok C (b::W)=((decide (C.nx≤b)||C.Wm.contains b)&&wok C W):=rfl
def mkSR(st:Bool)(c:Prop)(r:AR)(H:Hp):SR:=.ok st (c∧r.pre) r.v r.h ⟨r.R,r.W,H.next,r.h.next⟩
@[congr] theorem mkSR_congr {st:Bool}{c c':Prop}{r r':AR}{H:Hp}(hc:c=c')(hr:r=r'):mkSR st c r H=mkSR st c' r' H:=by rw [hc,hr]
theorem mkSR_mk(st:Bool)(c p:Prop)(v:V)(h:Hp)(R W:List Nat)(H:Hp):mkSR st c ⟨p,v,h,R,W⟩ H=.ok st (c∧p) v h ⟨R,W,H.next,h.next⟩:=rfl
theorem next_mk(bs:List (Nat×Blk))(n:Nat):Hp.next ⟨bs,n⟩=n:=rfl
theorem zW {op:Op}{env:Env}{H:Hp}{c:Prop}{r:AR}(h1:step1 C P env op H=.ok (zdO op) (needs (op.operands.toList.map (ev env))∧(aop P (rho env) op H).pre) (aop P (rho env) op H).v (aop P (rho env) op H).h
 ⟨(aop P (rho env) op H).R,(aop P (rho env) op H).W,H.next,(aop P (rho env) op H).h.next⟩) (h2:needs (op.operands.toList.map (ev env))↔c) (h3:aop P (rho env) op H=r):step1 C P env op H=mkSR (zdO op) c r H:=by
 rw [h1,h3,propext h2];rfl
theorem zqe(v:V)(r:List V):needs (v::r)=(v.cond∧needs r):=rfl
variable {H:Hp}
theorem zpD(x:Operand):step1 C P env (.move x) H=mkSR true (ev env x).cond (.val H (ev env x).val) H:=zW rfl (by simp [Op.operands,needs]) rfl
theorem zkd(x:Operand):step1 C P env (.assign x) H=mkSR true (ev env x).cond (.val H (ev env x).val) H:=zW rfl (by simp [Op.operands,needs]) rfl
theorem zpC(c a b:Operand):step1 C P env (.pick c a b) H=zb7 (ev env c) (ev env a) (ev env b) H:=rfl
theorem zme(t:TypeId):step1 C P env (.alloc t) H=mkSR false True (zdN P t H) H:=zW rfl (by simp [Op.operands,needs]) rfl
def boxK(b:Bool)(c:Prop)(v:V)(H:Hp):SR:=match b with|true=>.ok true (c∧zq v=true) (.fp v.cellsV) H ⟨[],[],H.next,H.next⟩|false=>mkSR false c (aBox v H) H
theorem zsK(t:TypeId)(x:Operand):step1 C P env (.box t x) H=boxK (C.fz t) (ev env x).cond (ev env x).val H:=by
 show (if C.fz t=true then _ else _)=_;unfold boxK;cases C.fz t with
 |true=>rw [if_pos rfl]
 |false=>rw [if_neg (by simp)];show SR.ok false (needs [ev env x]∧_) _ _ _=mkSR _ _ _ _;unfold mkSR needs needs;simp only [and_true];rfl
theorem zwD(c:Prop)(v:V):boxK true c v H=.ok true (c∧zq v=true) (.fp v.cellsV) H ⟨[],[],H.next,H.next⟩:=rfl
theorem zrV(c:Prop)(v:V):boxK false c v H=mkSR false c (aBox v H) H:=rfl
theorem zpE(t:TypeId)(x:Operand):step1 C P env (.load t x) H=mkSR true (ev env x).cond (zbT P t (ev env x).val H) H:=zW rfl (by simp [Op.operands,needs]) rfl
theorem zl9(t:TypeId)(a x:Operand):step1 C P env (.store t a x) H=mkSR false ((ev env a).cond∧(ev env x).cond) (zdb P t (ev env a).val (ev env x).val H) H:=zW rfl (by simp [Op.operands,needs]) rfl
theorem zgW(x:Operand):step1 C P env (.nilCheck x) H=mkSR true (ev env x).cond (aNil (ev env x).val H) H:=zW rfl (by simp [Op.operands,needs]) rfl
theorem zsL(op:BinOp)(t:TypeId)(x y:Operand)(u:TypeId):step1 C P env (.binOp op t x y u) H=mkSR true ((ev env x).cond∧(ev env y).cond) (aBin P op t (ev env x).val (ev env y).val H) H:=zW rfl (by simp [Op.operands,needs]) rfl
theorem step1_un(op:UnOp)(t:TypeId)(x:Operand):step1 C P env (.unOp op t x) H=mkSR true (ev env x).cond (aUn op (ev env x).val H) H:=zW rfl (by simp [Op.operands,needs]) rfl
theorem ziq(s d:TypeId)(x:Operand):step1 C P env (.convert s d x) H=mkSR false (ev env x).cond (zdI P s d (ev env x).val H) H:=zW rfl (by simp [Op.operands,needs]) rfl
theorem zmc(t:TypeId)(x:Operand):step1 C P env (.makeInterface t x) H=mkSR true (ev env x).cond (zaJ P t (ev env x).val H) H:=zW rfl (by simp [Op.operands,needs]) rfl
theorem zgX(f:FuncId)(caps:List Operand):step1 C P env (.makeFunc (.func f) #[] ⟨caps⟩) H=mkSR true (needs (caps.map (ev env))) (.val H (.fn f (caps.map (rho env)))) H:=zW rfl (by simp [Op.operands]) rfl
theorem zfS(t:TypeId)(l c:Operand):step1 C P env (.makeSlice t l c) H=mkSR false ((ev env l).cond∧(ev env c).cond) (zau P t (ev env l).val (ev env c).val H) H:=zW rfl (by simp [Op.operands,needs]) rfl
theorem zil(t:TypeId)(x l:Operand):step1 C P env (.slice t x (some l) none none) H=mkSR true ((ev env x).cond∧(ev env l).cond) (zaL P t (ev env x).val (some (ev env l).val) none none H) H:=zW rfl (by simp [Op.operands,needs]) rfl
theorem zim(t:TypeId)(x h:Operand):step1 C P env (.slice t x none (some h) none) H=mkSR true ((ev env x).cond∧(ev env h).cond) (zaL P t (ev env x).val none (some (ev env h).val) none H) H:=zW rfl (by simp [Op.operands,needs]) rfl
theorem zik(t:TypeId)(x l h:Operand):step1 C P env (.slice t x (some l) (some h) none) H=mkSR true ((ev env x).cond∧(ev env l).cond∧(ev env h).cond) (zaL P t (ev env x).val (some (ev env l).val) (some (ev env h).val) none H) H:=zW rfl (by simp [Op.operands,needs]) rfl
theorem zfV(t:TypeId)(x:Operand)(f:Nat):step1 C P env (.fieldAddr t x f) H=mkSR true (ev env x).cond (zai P t (ev env x).val f H) H:=zW rfl (by simp [Op.operands,needs]) rfl
theorem zfU(t:TypeId)(x i:Operand):step1 C P env (.indexAddr t x i) H=mkSR true ((ev env x).cond∧(ev env i).cond) (zY P t (ev env x).val (ev env i).val H) H:=zW rfl (by simp [Op.operands,needs]) rfl
theorem zmb(t:TypeId)(x i:Operand):step1 C P env (.index t x i) H=mkSR true ((ev env x).cond∧(ev env i).cond) (zco P t (ev env x).val (ev env i).val H) H:=zW rfl (by simp [Op.operands,needs]) rfl
theorem zio(x:Operand)(i:Nat):step1 C P env (.extract x i) H=mkSR true (ev env x).cond (zaZ (ev env x).val i H) H:=zW rfl (by simp [Op.operands,needs]) rfl
theorem zsI(t:TypeId)(x:Operand):step1 C P env (.call { callee:=.builtin .len,args:=⟨[x]⟩,argTypes:=⟨[t]⟩ }) H=mkSR true (ev env x).cond (aLen P t (ev env x).val H) H:=zW rfl (by simp [Op.operands,Call.operands,needs]) rfl
theorem zke(t u:TypeId)(x y:Operand):step1 C P env (.call { callee:=.builtin .append,args:=⟨[x,y]⟩,argTypes:=⟨[t,u]⟩ }) H=mkSR false ((ev env x).cond∧(ev env y).cond) (zcf P t u (ev env x).val (ev env y).val H) H:=zW rfl (by simp [Op.operands,Call.operands,needs]) rfl
theorem zsH(x y:Operand)(ts:Array TypeId):step1 C P env (.call { callee:=.builtin .max,args:=⟨[x,y]⟩,argTypes:=ts }) H=mkSR true ((ev env x).cond∧(ev env y).cond) (aMax (ev env x).val (ev env y).val true H) H:=zW rfl (by simp [Op.operands,Call.operands,needs]) rfl
def zdJ(env:Env):List (Nat×Operand)→List (Nat×V)
 |[]=>[]
 |(i,x)::r=>(i,(ev env x).val)::zdJ env r
theorem zp4:zdJ env []=[]:=rfl
theorem zmw(i:Nat)(x:Operand)(r:List (Nat×Operand)):zdJ env ((i,x)::r)=(i,(ev env x).val)::zdJ env r:=rfl
theorem zeg:∀ ps:List (Nat×Operand),ps.map (fun p=>(p.1,rho env p.2))=zdJ env ps
 |[]=>rfl
 |(i,x)::r=>by rw [List.map_cons,zeg r];rfl
def zgh(env:Env):List (Nat×Operand)→Prop
 |[]=>True
 |(_,x)::r=>(ev env x).cond∧zgh env r
theorem zqf:zgh env []=True:=rfl
theorem zmI(i:Nat)(x:Operand)(r:List (Nat×Operand)):zgh env ((i,x)::r)=((ev env x).cond∧zgh env r):=rfl
theorem zgg:∀ ps:List (Nat×Operand),needs ((ps.map (·.2)).map (ev env))↔zgh env ps
 |[]=>Iff.rfl
 |_::r=>and_congr Iff.rfl (zgg r)
theorem zmd(t:TypeId)(ps:List (Nat×Operand)):step1 C P env (.build t ⟨ps⟩) H=mkSR true (zgh env ps) (zcq P t (zdJ env ps) H) H:=
 zW rfl (by rw [←zgg];simp [Op.operands]) (by rw [←zeg];rfl)
theorem zfh(t:TypeId)(n:Nat)(ps:List (Nat×Operand)):step1 C P env (.buildSlice t n ⟨ps⟩) H=mkSR false (zgh env ps) (zM P t n (zdJ env ps) H) H:=
 zW rfl (by rw [←zgg];simp [Op.operands]) (by rw [←zeg];rfl)
theorem zma(x:Operand):step1 C P env (.panic x) H=match (ev env x).val with| .ifc t v=>.pan (ev env x).cond (.ifc t v) []|_=>.bad:=rfl
def vals(env:Env):List Operand→List V
 |[]=>[]
 |x::r=>(ev env x).val::vals env r
theorem vals_nil:vals env []=[]:=rfl
theorem zsm(x:Operand)(r:List Operand):vals env (x::r)=(ev env x).val::vals env r:=rfl
theorem vals_eq:∀ xs:List Operand,xs.map (rho env)=vals env xs
 |[]=>rfl
 |x::r=>by rw [List.map_cons,vals_eq r];rfl
def conds(env:Env):List Operand→Prop
 |[]=>True
 |x::r=>(ev env x).cond∧conds env r
theorem zvo:conds env []=True:=rfl
theorem zrn(x:Operand)(r:List Operand):conds env (x::r)=((ev env x).cond∧conds env r):=rfl
theorem zjD:∀ xs:List Operand,needs (xs.map (ev env))=conds env xs
 |[]=>rfl
 |x::r=>by rw [List.map_cons,zqe,zjD r];rfl
theorem zfT(f:FuncId)(caps:List Operand):step1 C P env (.makeFunc (.func f) ⟨[]⟩ ⟨caps⟩) H=mkSR true (conds env caps) (.val H (.fn f (vals env caps))) H:=by rw [←vals_eq, ←zjD];exact zgX f caps
def callF(C:Cfg)(v:V)(as:List V)(nd:Prop)(H:Hp):SR:=
 match v with
 | .fn f caps=>zbV C f (as++caps) nd H
 | .bnd f fs=>zbV C f (fs++as) nd H
 |_=>.bad
theorem callF_fn(f:FuncId)(caps as:List V)(nd:Prop):callF C (.fn f caps) as nd H=zbV C f (as++caps) nd H:=rfl
theorem zpF(f:Operand)(args:List Operand)(ts:Array TypeId):step1 C P env (.call { callee:=.value f,args:=⟨args⟩,argTypes:=ts }) H=
 callF C (ev env f).val (vals env args) ((ev env f).cond∧conds env args) H:=by
 rw [←vals_eq, ←zjD];rfl
def zlr(o:Option PR)(C:Cfg)(f:FuncId)(as:List V)(nd:Prop)(H:Hp):SR:=
 match o with
 |some (.ret v)=>.ok true nd v H ⟨[],[],0,0⟩
 |some (.panic v)=>.pan nd v []
 |none=>
  match C.Δ f as H with
  |some r=>mkSR false nd r H
  |none=>.bad
def nzs:List V→List V
 |[]=>[]
 |v::r=>nz v::nzs r
theorem nzs_nil:nzs []=[]:=rfl
theorem nzs_cons(v:V)(r:List V):nzs (v::r)=nz v::nzs r:=rfl
theorem nzs_eq:∀ as:List V,as.map nz=nzs as
 |[]=>rfl
 |v::r=>by rw [List.map_cons,nzs_eq r];rfl
theorem nz_bool(b:Bool):nz (.bool b)=.bool b:=rfl
theorem nz_int(k:IntKind)(n:Int):nz (.int k n)=.int k n:=rfl
theorem nz_str(l:List UInt8):nz (.str l)=.str l:=rfl
theorem nz_nilS:nz .nilS=.fs [] 0:=rfl
theorem nz_sl(b o l s:Nat)(k:Option Nat):nz (.sl b o l s k)=.sl b o l s k:=rfl
theorem nz_fs(cs:List V)(n:Nat):nz (.fs cs n)=.fs cs n:=rfl
theorem nz_nilP:nz .nilP=.nilP:=rfl
theorem nz_ptr(b o:Nat):nz (.ptr b o)=.ptr b o:=rfl
theorem nz_fp(cs:List V):nz (.fp cs)=.fp cs:=rfl
theorem nz_nilM:nz .nilM=.nilM:=rfl
theorem nz_map(b:Nat):nz (.map b)=.map b:=rfl
theorem nz_fn(f:FuncId)(cs:List V):nz (.fn f cs)=.fn f cs:=rfl
theorem nz_nilF:nz .nilF=.nilF:=rfl
theorem nz_ifc(t:TypeId)(v:V):nz (.ifc t v)=.ifc t v:=rfl
theorem nz_nilI:nz .nilI=.nilI:=rfl
theorem nz_agg(cs:List V):nz (.agg cs)=.agg cs:=rfl
theorem nz_tup(cs:List V):nz (.tup cs)=.tup cs:=rfl
theorem nz_any:nz .any=.any:=rfl
def znn(b:Bool)(C:Cfg)(f:FuncId)(as:List V)(nd:Prop)(H:Hp):SR:=
 match b with
 |true=>zlr (C.Γ f (nzs as)) C f as nd H
 |false=>
  match C.Δ f as H with
  |some r=>mkSR false nd r H
  |none=>
   match C.Γ f (as.map (lend H))with
   |some (.ret v)=>.ok true (nd∧zal v=true) v H ⟨zbS as,[],0,0⟩
   |some (.panic v)=>.pan (nd∧zal v=true) v (zbS as)
   |none=>.bad
theorem call1_eq(f:FuncId)(as:List V)(nd:Prop):zbV C f as nd H=znn (zbS as).isEmpty C f as nd H:=by
 unfold zbV znn;cases (zbS as).isEmpty with
 |true=>rw [if_pos rfl, ←nzs_eq];unfold zlr mkSR;rfl
 |false=>rw [if_neg (by simp)];rfl
theorem zrB(f:FuncId)(as:List V)(nd:Prop):znn true C f as nd H=zlr (C.Γ f (nzs as)) C f as nd H:=rfl
@[congr] theorem callE_congr {b b':Bool}{f:FuncId}{as:List V}{nd:Prop}(h:b=b'):znn b C f as nd H=znn b' C f as nd H:=by rw [h]
theorem lend_sl(b off len sz:Nat)(kc:Option Nat):lend H (.sl b off len sz kc)=zqq (H.get b) b off len sz kc:=rfl
theorem zqp(cs:List V)(b off len sz:Nat)(kc:Option Nat):zqq (some (.cells cs)) b off len sz kc=if off+len*sz≤cs.length then .fs ((cs.drop off).take (len*sz)) len else .sl b off len sz kc:=rfl
theorem zum(b:Bool):lend H (.bool b)=.bool b:=rfl
theorem lend_int(k:IntKind)(n:Int):lend H (.int k n)=.int k n:=rfl
theorem lend_str(l:List UInt8):lend H (.str l)=.str l:=rfl
theorem zuk:lend H .nilS=.fs [] 0:=rfl
theorem lend_fs(cs:List V)(n:Nat):lend H (.fs cs n)=.fs cs n:=rfl
theorem zul:lend H .nilP=.nilP:=rfl
theorem lend_ptr(b o:Nat):lend H (.ptr b o)=zqu (H.get b) b o:=rfl
theorem zqs(cs:List V)(b off:Nat):zqu (some (.cells cs)) b off=.fp (cs.drop off):=rfl
theorem lend_fp(cs:List V):lend H (.fp cs)=.fp cs:=rfl
theorem lend_map(b:Nat):lend H (.map b)=.map b:=rfl
def zhK(H:Hp):List V→List V
 |[]=>[]
 |v::r=>zdH H v::zhK H r
theorem zqn:zhK H []=[]:=rfl
theorem zmM(v:V)(r:List V):zhK H (v::r)=zdH H v::zhK H r:=rfl
theorem zkO:∀ vs:List V,vs.map (zdH H)=zhK H vs
 |[]=>rfl
 |v::r=>by rw [List.map_cons,zkO r];rfl
theorem lend_fn(f:FuncId)(cs:List V):lend H (.fn f cs)=.fn f (zhK H cs):=by rw [←zkO];rfl
theorem lend0_sl(b off len sz:Nat)(kc:Option Nat):zdH H (.sl b off len sz kc)=zqq (H.get b) b off len sz kc:=rfl
theorem zup(b o:Nat):zdH H (.ptr b o)=zqu (H.get b) b o:=rfl
theorem zqw(b:Bool):zdH H (.bool b)=.bool b:=rfl
theorem zuq(k:IntKind)(n:Int):zdH H (.int k n)=.int k n:=rfl
theorem zuo(l:List UInt8):zdH H (.str l)=.str l:=rfl
theorem lend0_fs(cs:List V)(n:Nat):zdH H (.fs cs n)=.fs cs n:=rfl
theorem lend0_fp(cs:List V):zdH H (.fp cs)=.fp cs:=rfl
theorem zpY(b:Bool):zdc (.bool b)=[]:=rfl
theorem ztd(k:IntKind)(n:Int):zdc (.int k n)=[]:=rfl
theorem ztb(l:List UInt8):zdc (.str l)=[]:=rfl
theorem refs1_fs(cs:List V)(n:Nat):zdc (.fs cs n)=[]:=rfl
theorem refs1_fp(cs:List V):zdc (.fp cs)=[]:=rfl
theorem zpW:zdc .nilS=[]:=rfl
theorem zpX:zdc .nilP=[]:=rfl
theorem refs1_sl(b off len sz:Nat)(kc:Option Nat):zdc (.sl b off len sz kc)=[b]:=rfl
theorem ztc(b o:Nat):zdc (.ptr b o)=[b]:=rfl
def zmq:List V→List Nat
 |[]=>[]
 |v::r=>zcQ v++zmq r
theorem zta:zmq []=[]:=rfl
theorem zpV(v:V)(r:List V):zmq (v::r)=zcQ v++zmq r:=rfl
theorem ziE:∀ vs:List V,vs.flatMap zcQ=zmq vs
 |[]=>rfl
 |v::r=>by rw [List.flatMap_cons,ziE r];rfl
theorem refs1_fn(f:FuncId)(cs:List V):zdc (.fn f cs)=zmq cs:=by rw [←ziE];rfl
theorem zte(cs:List V):zdc (.agg cs)=zmq cs:=by rw [←ziE];rfl
theorem refs0_sl(b off len sz:Nat)(kc:Option Nat):zcQ (.sl b off len sz kc)=[b]:=rfl
theorem zth(b o:Nat):zcQ (.ptr b o)=[b]:=rfl
theorem zti(k:IntKind)(n:Int):zcQ (.int k n)=[]:=rfl
theorem ztg(l:List UInt8):zcQ (.str l)=[]:=rfl
theorem zp1(b:Bool):zcQ (.bool b)=[]:=rfl
theorem refs0_fs(cs:List V)(n:Nat):zcQ (.fs cs n)=[]:=rfl
theorem refs0_fp(cs:List V):zcQ (.fp cs)=[]:=rfl
theorem zun:zbS []=[]:=rfl
theorem zqr(v:V)(r:List V):zbS (v::r)=zdc v++zbS r:=rfl
theorem zmi(b:Bool):zal (.bool b)=true:=rfl
theorem scalar_int(k:IntKind)(n:Int):zal (.int k n)=true:=rfl
theorem zpL(l:List UInt8):zal (.str l)=true:=rfl
theorem zpK(vs:List V):zal (.tup vs)=vs.all zdY:=rfl
theorem zpN(vs:List V):zal (.agg vs)=vs.all zdY:=rfl
theorem zpM(t:TypeId)(v:V):zal (.ifc t v)=zdY v:=rfl
theorem zwZ:([]:List V).all zdY=true:=rfl
theorem zr0(v:V)(r:List V):(v::r).all zdY=(zdY v&&r.all zdY):=rfl
theorem zw0(b:Bool):zdY (.bool b)=true:=rfl
theorem atom_int(k:IntKind)(n:Int):zdY (.int k n)=true:=rfl
theorem atom_str(l:List UInt8):zdY (.str l)=true:=rfl
theorem lend_ifc(t:TypeId)(v:V):lend H (.ifc t v)=.ifc t v:=rfl
theorem zqv:zdH H .nilS=.fs [] 0:=rfl
theorem zp0:zcQ .nilS=[]:=rfl
theorem zvI(v:V)(f:FuncId)(as:List V)(nd:Prop):zlr (some (.ret v)) C f as nd H=.ok true nd v H ⟨[],[],0,0⟩:=rfl
theorem zvJ(v:V)(f:FuncId)(as:List V)(nd:Prop):zlr (some (.panic v)) C f as nd H=.pan nd v []:=rfl
@[congr] theorem callG_congr {o o':Option PR}{f:FuncId}{as:List V}{nd:Prop}(h:o=o'):zlr o C f as nd H=zlr o' C f as nd H:=by rw [h]
def callM(o:Option AR)(nd:Prop)(H:Hp):SR:=match o with|some r=>mkSR false nd r H|none=>.bad
theorem zrA(f:FuncId)(as:List V)(nd:Prop):zlr none C f as nd H=callM (C.Δ f as H) nd H:=rfl
theorem zry(r:AR)(nd:Prop):callM (some r) nd H=mkSR false nd r H:=rfl
def zno(o:Option AR)(C:Cfg)(f:FuncId)(as:List V)(nd:Prop)(H:Hp):SR:=
 match o with
 |some r=>mkSR false nd r H
 |none=>
  match C.Γ f (as.map (lend H))with
  |some (.ret v)=>.ok true (nd∧zal v=true) v H ⟨zbS as,[],0,0⟩
  |some (.panic v)=>.pan (nd∧zal v=true) v (zbS as)
  |none=>.bad
theorem znm(f:FuncId)(as:List V)(nd:Prop):znn false C f as nd H=zno (C.Δ f as H) C f as nd H:=by unfold znn zno;rfl
@[congr] theorem callD_congr {o o':Option AR}{f:FuncId}{as:List V}{nd:Prop}(h:o=o'):zno o C f as nd H=zno o' C f as nd H:=by rw [h]
theorem zrC(r:AR)(f:FuncId)(as:List V)(nd:Prop):zno (some r) C f as nd H=mkSR false nd r H:=rfl
def zrz(o:Option PR)(as:List V)(nd:Prop)(H:Hp):SR:=
 match o with
 |some (.ret v)=>.ok true (nd∧zal v=true) v H ⟨zbS as,[],0,0⟩
 |some (.panic v)=>.pan (nd∧zal v=true) v (zbS as)
 |none=>.bad
def zqo(H:Hp):List V→List V
 |[]=>[]
 |v::r=>lend H v::zqo H r
theorem zuj:zqo H []=[]:=rfl
theorem zqm(v:V)(r:List V):zqo H (v::r)=lend H v::zqo H r:=rfl
theorem zoq:∀ as:List V,as.map (lend H)=zqo H as
 |[]=>rfl
 |v::r=>by rw [List.map_cons,zoq r];rfl
theorem zrD(f:FuncId)(as:List V)(nd:Prop):zno none C f as nd H=zrz (C.Γ f (zqo H as)) as nd H:=by rw [←zoq];unfold zno zrz;rfl
@[congr] theorem callL_congr {o o':Option PR}{as:List V}{nd:Prop}(h:o=o'):zrz o as nd H=zrz o' as nd H:=by rw [h]
theorem zvG(v:V)(as:List V)(nd:Prop):zrz (some (.ret v)) as nd H=.ok true (nd∧zal v=true) v H ⟨zbS as,[],0,0⟩:=rfl
theorem zvH(v:V)(as:List V)(nd:Prop):zrz (some (.panic v)) as nd H=.pan (nd∧zal v=true) v (zbS as):=rfl
def extΓ(f0:FuncId)(c:List V→Option PR)(Γ:FuncId→List V→Option PR):FuncId→List V→Option PR:=fun f as=>bif f==f0 then c as else Γ f as
def noΓ:FuncId→List V→Option PR:=fun _ _=>none
def zcu(f0:FuncId)(c:List V→Hp→Option AR)(Δ:FuncId→List V→Hp→Option AR):FuncId→List V→Hp→Option AR:=fun f as H=>bif f==f0 then c as H else Δ f as H
def noΔ:FuncId→List V→Hp→Option AR:=fun _ _ _=>none
theorem zoH(f0:FuncId)(c:List V→Option PR)(Γ:FuncId→List V→Option PR)(f:FuncId)(as:List V):extΓ f0 c Γ f as=bif f==f0 then c as else Γ f as:=rfl
theorem noΓ_at(f:FuncId)(as:List V):noΓ f as=none:=rfl
theorem zoG(f0:FuncId)(c:List V→Hp→Option AR)(Δ:FuncId→List V→Hp→Option AR)(f:FuncId)(as:List V)(H:Hp):zcu f0 c Δ f as H=bif f==f0 then c as H else Δ f as H:=rfl
theorem noΔ_at(f:FuncId)(as:List V)(H:Hp):noΔ f as H=none:=rfl
def zcH(P:Program)(Γ:FuncId→List V→Option PR):Prop:=∀ f args r,Γ f args=some r→PCall P f args r
def za0(P:Program)(Δ:FuncId→List V→Hp→Option AR):Prop:=∀ f args H r,Δ f args H=some r→HCall P f args H r
theorem zh:zcH P noΓ:=fun _ _ _ h=>by cases h
theorem zf:za0 P noΔ:=fun _ _ _ _ h=>by cases h
theorem zg {f0:FuncId}{c:List V→Option PR}{Γ:FuncId→List V→Option PR}(h:∀ args r,c args=some r→PCall P f0 args r)(hΓ:zcH P Γ):zcH P (extΓ f0 c Γ):=fun f args r e=>by
 rw [zoH]at e;cases hb:f==f0 with
 |true=>rw [hb]at e;simp at hb;subst hb;exact h _ _ e
 |false=>rw [hb]at e;exact hΓ _ _ _ e
theorem zas {f0:FuncId}{c:List V→Hp→Option AR}{Δ:FuncId→List V→Hp→Option AR}(h:∀ args H r,c args H=some r→HCall P f0 args H r)(hΔ:za0 P Δ):za0 P (zcu f0 c Δ):=fun f args H r e=>by
 rw [zoG]at e;cases hb:f==f0 with
 |true=>rw [hb]at e;simp at hb;subst hb;exact h _ _ _ e
 |false=>rw [hb]at e;exact hΔ _ _ _ _ e
end Go.Ab
