/- How simp is to walk: small rewrite rules, one an operation; what is looked into first, what is left alone. -/
import Derived.Test.YthbimeikbkjnkaaGreatDoorCAbExec
import Derived.Tactics
set_option linter.all false
set_option maxHeartbeats 16000000
set_option maxRecDepth 100000
namespace Go.Ab
variable {C:Cfg}{P:Program}
def zdK:Env→Nat→V
 |[],_=>.any
 |(k,v)::r,t=>bif t==k then v else zdK r t
theorem zxk(t:Nat):zdK [] t=.any:=rfl
theorem zjb(k:Nat)(v:V)(r:Env)(t:Nat):zdK ((k,v)::r) t=bif t==k then v else zdK r t:=rfl
theorem zdr:∀(env:Env) (t:Nat),(env.lookup t).getD .any=zdK env t
 |[],_=>rfl
 |(k,v)::r,t=>by rw [List.lookup_cons,zjb, ←zdr r t];cases t==k<;>rfl
theorem ev_tmp(env:Env)(t:Nat):ev env (.tmp t)=zdK env t:=zdr env t
theorem ev_const(env:Env)(v:Value):ev env (.const v)=cv v:=rfl
theorem ev_func(env:Env)(f:FuncId):ev env (.func f)=.fn f []:=rfl
theorem zyi(env:Env)(k:Nat):ev env (.global k)=(match GL k with|some cs=>.fp cs|none=>.any):=rfl
theorem cv_bool(b:Bool):cv (.bool b)=.bool b:=rfl
theorem cv_int(k:IntKind)(n:Int):cv (.int k n)=.int k n:=rfl
theorem cv_str(l:List UInt8):cv (.string ⟨l.toArray⟩)=.str l:=rfl
theorem cv_nilS:cv (.slice none 0 0)=.nilS:=rfl
theorem cv_nilP:cv (.pointer none)=.nilP:=rfl
theorem cv_nilM:cv (.map none)=.nilM:=rfl
theorem cv_nilF:cv .nilFunc=.nilF:=rfl
theorem cv_nilI:cv .nilIface=.nilI:=rfl
theorem cv_agg(cs:List Value):cv (.agg cs.toArray)=.agg (cs.map cv1):=rfl
theorem cv_tup(cs:List Value):cv (.tuple cs.toArray)=.tup (cs.map cv1):=rfl
theorem cv1_bool(b:Bool):cv1 (.bool b)=.bool b:=rfl
theorem cv1_int(k:IntKind)(n:Int):cv1 (.int k n)=.int k n:=rfl
theorem cv1_str(l:List UInt8):cv1 (.string ⟨l.toArray⟩)=.str l:=rfl
theorem cv1_nilS:cv1 (.slice none 0 0)=.nilS:=rfl
theorem cv1_nilP:cv1 (.pointer none)=.nilP:=rfl
theorem cv1_nilM:cv1 (.map none)=.nilM:=rfl
theorem cv1_nilF:cv1 .nilFunc=.nilF:=rfl
theorem cv1_nilI:cv1 .nilIface=.nilI:=rfl
theorem vc_bool(b:Bool):V.cond (.bool b)=True:=rfl
theorem vc_int(k:IntKind)(n:Int):V.cond (.int k n)=True:=rfl
theorem vc_str(l:List UInt8):V.cond (.str l)=True:=rfl
theorem vc_nilS:V.cond .nilS=True:=rfl
theorem vc_sl(b o l s:Nat)(k:Option Nat):V.cond (.sl b o l s k)=True:=rfl
theorem vc_fs(cs:List V)(n:Nat):V.cond (.fs cs n)=True:=rfl
theorem vc_nilP:V.cond .nilP=True:=rfl
theorem vc_ptr(b o:Nat):V.cond (.ptr b o)=True:=rfl
theorem vc_fp(cs:List V):V.cond (.fp cs)=True:=rfl
theorem vc_nilM:V.cond .nilM=True:=rfl
theorem vc_map(b:Nat):V.cond (.map b)=True:=rfl
theorem vc_fn(f:FuncId)(cs:List V):V.cond (.fn f cs)=True:=rfl
theorem vc_nilF:V.cond .nilF=True:=rfl
theorem vc_ifc(t:TypeId)(v:V):V.cond (.ifc t v)=True:=rfl
theorem vc_nilI:V.cond .nilI=True:=rfl
theorem vc_agg(cs:List V):V.cond (.agg cs)=True:=rfl
theorem vc_tup(cs:List V):V.cond (.tup cs)=True:=rfl
theorem vc_any:V.cond .any=True:=rfl
theorem vc_opt(b:Bool)(v:V):V.cond (.opt b v)=(b=true):=rfl
theorem vv_bool(b:Bool):V.val (.bool b)=.bool b:=rfl
theorem vv_int(k:IntKind)(n:Int):V.val (.int k n)=.int k n:=rfl
theorem vv_str(l:List UInt8):V.val (.str l)=.str l:=rfl
theorem vv_nilS:V.val .nilS=.nilS:=rfl
theorem vv_sl(b o l s:Nat)(k:Option Nat):V.val (.sl b o l s k)=.sl b o l s k:=rfl
theorem vv_fs(cs:List V)(n:Nat):V.val (.fs cs n)=.fs cs n:=rfl
theorem vv_nilP:V.val .nilP=.nilP:=rfl
theorem vv_ptr(b o:Nat):V.val (.ptr b o)=.ptr b o:=rfl
theorem vv_fp(cs:List V):V.val (.fp cs)=.fp cs:=rfl
theorem vv_nilM:V.val .nilM=.nilM:=rfl
theorem vv_map(b:Nat):V.val (.map b)=.map b:=rfl
theorem vv_fn(f:FuncId)(cs:List V):V.val (.fn f cs)=.fn f cs:=rfl
theorem vv_nilF:V.val .nilF=.nilF:=rfl
theorem vv_ifc(t:TypeId)(v:V):V.val (.ifc t v)=.ifc t v:=rfl
theorem vv_nilI:V.val .nilI=.nilI:=rfl
theorem vv_agg(cs:List V):V.val (.agg cs)=.agg cs:=rfl
theorem vv_tup(cs:List V):V.val (.tup cs)=.tup cs:=rfl
theorem vv_any:V.val .any=.any:=rfl
theorem vv_opt(b:Bool)(v:V):V.val (.opt b v)=v:=rfl
def delE(t:Nat)(env:Env):Env:=env.filter fun p=>p.1 != t
theorem delE_nil(t:Nat):delE t []=[]:=rfl
theorem zyy(t k:Nat)(v:V)(r:Env):delE t ((k,v)::r)=bif k==t then delE t r else(k,v)::delE t r:=by
 unfold delE;rw [List.filter_cons];by_cases h:k=t
 ·subst h;simp
 ·have h1:(k==t)=false:=by simp [h]
  have h2:(k != t)=true:=by simp [h]
  simp [h1];intro e;exact absurd e h
theorem zvk(keep:Nat→Bool):zcr keep []=[]:=rfl
theorem zr4(keep:Nat→Bool)(t:Nat)(v:V)(r:Env):zcr keep ((t,v)::r)=bif keep t then(t,v)::delE t (zcr keep r)else zcr keep r:=by rw [zcr];cases keep t<;>rfl
def zbm:List Nat→Nat→Bool
 |[],_=>false
 |k::r,t=>(t==k)||zbm r t
theorem zxJ(t:Nat):zbm [] t=false:=rfl
theorem zto(k:Nat)(r:List Nat)(t:Nat):zbm (k::r) t=((t==k)||zbm r t):=rfl
theorem trim_mk(keep:Nat→Bool)(env:Env)(h:Hp):St.trim ⟨env,h⟩ keep=⟨zcr keep env,h⟩:=rfl
def zar:List (Nat×Blk)→Nat→Option Blk
 |[],_=>none
 |(k,x)::r,b=>bif b==k then some x else zar r b
theorem zxl(b:Nat):zar [] b=none:=rfl
theorem zjc(k:Nat)(x:Blk)(r:List (Nat×Blk))(b:Nat):zar ((k,x)::r) b=bif b==k then some x else zar r b:=rfl
theorem zcM:∀(bs:List (Nat×Blk)) (b:Nat),bs.lookup b=zar bs b
 |[],_=>rfl
 |(k,v)::r,b=>by rw [List.lookup_cons,zjc, ←zcM r b];cases b==k<;>rfl
theorem zaL(bs:List (Nat×Blk))(n b:Nat):Hp.get ⟨bs,n⟩ b=zar bs b:=zcM bs b
def putB:List (Nat×Blk)→Nat→Blk→List (Nat×Blk)
 |[],_,_=>[]
 |(k,y)::r,b,x=>(bif k==b then(k,x)else(k,y))::putB r b x
theorem putB_nil(b:Nat)(x:Blk):putB [] b x=[]:=rfl
theorem zl8(k:Nat)(y:Blk)(r:List (Nat×Blk))(b:Nat)(x:Blk):putB ((k,y)::r) b x=(bif k==b then(k,x)else(k,y))::putB r b x:=rfl
theorem zwr:∀(bs:List (Nat×Blk)) (b:Nat) (x:Blk),(bs.map fun p=>if p.1==b then(p.1,x)else p)=putB bs b x
 |[],_,_=>rfl
 |(k,v)::r,b,x=>by rw [List.map_cons,zl8,zwr r b x];cases h:k==b<;>simp_all
theorem put_mk(bs:List (Nat×Blk))(n b:Nat)(x:Blk):Hp.put ⟨bs,n⟩ b x=⟨putB bs b x,n⟩:=by rw [←zwr];rfl
def zkO:List (Nat×Blk)→Nat→List (Nat×Blk)
 |[],_=>[]
 |(k,y)::r,b=>bif k==b then zkO r b else(k,y)::zkO r b
theorem zxG(b:Nat):zkO [] b=[]:=rfl
theorem zjf(k:Nat)(y:Blk)(r:List (Nat×Blk))(b:Nat):zkO ((k,y)::r) b=bif k==b then zkO r b else(k,y)::zkO r b:=rfl
theorem zqU:∀(bs:List (Nat×Blk)) (b:Nat),(bs.filter fun p=>p.1 != b)=zkO bs b
 |[],_=>rfl
 |(k,v)::r,b=>by rw [List.filter_cons,zjf, ←zqU r b];cases h:k==b<;>simp_all
theorem zxF(bs:List (Nat×Blk))(n b:Nat):Hp.kill ⟨bs,n⟩ b=⟨zkO bs b,n⟩:=by rw [←zqU];rfl
theorem new_mk(bs:List (Nat×Blk))(n:Nat)(x:Blk):Hp.new ⟨bs,n⟩ x=⟨(n,x)::bs,n+1⟩:=rfl
inductive Fr where
 |seq (y:Code)
 |sem (y:Code)
 |block (id:Nat)
def unst(C:Cfg)(P:Program)(K:Out→St→Prop):List Fr→Out→St→Prop
 |[]=>K
 | .seq y::st=>zf3 (fun s=>AXf C P y s (unst C P K st)) (unst C P K st)
 | .sem y::st=>zf3 (fun s=>AX C P y s (unst C P K st)) (unst C P K st)
 | .block i::st=>zrM i (unst C P K st)
theorem zbX(K:Out→St→Prop)(v:V)(s:St):∀ st,unst C P K st (.panic v) s=K (.panic v) s
 |[]=>rfl
 | .seq _::st=>zbX K v s st
 | .sem _::st=>zbX K v s st
 | .block _::st=>zbX K v s st
def AXs(C:Cfg)(P:Program)(K:Out→St→Prop)(st:List Fr)(c:Code)(env:Env)(h:Hp):Prop:=AXf C P c ⟨env,h⟩ (unst C P K st)
def AXc(C:Cfg)(P:Program)(K:Out→St→Prop)(st:List Fr)(x y:Code)(b:V)(env:Env)(h:Hp):Prop:=
 match b with
 | .bool b=>if b=true then AXs C P K st x env h else AXs C P K st y env h
 |_=>False
def AXt(C:Cfg)(P:Program)(K:Out→St→Prop)(st:List Fr)(env:Env)(h:Hp):Prop:=AXs C P K st .skip env h
def AXr(C:Cfg)(P:Program)(K:Out→St→Prop)(st:List Fr)(ops:Array Oper)(os:List Oper)(env:Env)(h:Hp):Prop:=ARun C P ops os ⟨env,h⟩ (zbV C.keep (unst C P K st))
def AXf1(C:Cfg)(P:Program)(K:Out→St→Prop)(st:List Fr)(ops:Array Oper)(os:List Oper)(d:Option Tmp)(r:SR)(env:Env)(h:Hp):Prop:=
 fol C r (fun v h' _=>ARun C P ops os (((⟨env,h⟩:St).put d v).hp h') (zbV C.keep (unst C P K st))) (fun v=>zbV C.keep (unst C P K st) (.panic v) ⟨env,h⟩)
def AXg1(C:Cfg)(P:Program)(K:Out→St→Prop)(st:List Fr)(ops:Array Oper)(os:List Oper)(d:Option Tmp)(gb:Option Bool)(r:SR)(env:Env)(h:Hp):Prop:=
 match gb with
 |some gb=>folG C gb r h (fun v h' _=>ARun C P ops os (((⟨env,h⟩:St).put d v).hp h') (zbV C.keep (unst C P K st))) (fun v=>zbV C.keep (unst C P K st) (.panic v) ⟨env,h⟩)
 |none=>False
def AXd(C:Cfg)(P:Program)(K:Out→St→Prop)(st:List Fr)(ops:Array Oper)(os:List Oper)(i:Nat)(acc:List (Nat×Foot))(env:Env)(h:Hp):Prop:=DRun C P ops os i ⟨env,h⟩ acc (zbV C.keep (unst C P K st))
def AXf2(C:Cfg)(P:Program)(K:Out→St→Prop)(st:List Fr)(ops:Array Oper)(os:List Oper)(i:Nat)(d:Option Tmp)(r:SR)(acc:List (Nat×Foot))(env:Env)(h:Hp):Prop:=
 fol C r (fun v h' f=>DRun C P ops os (i+1) (((⟨env,h⟩:St).put d v).hp h') (accF acc i f) (zbV C.keep (unst C P K st))) (fun v=>zdU ops i=true∧chk ops acc=true∧zbV C.keep (unst C P K st) (.panic v) ⟨env,h⟩)
def AXg2(C:Cfg)(P:Program)(K:Out→St→Prop)(st:List Fr)(ops:Array Oper)(os:List Oper)(i:Nat)(d:Option Tmp)(gb:Option Bool)(r:SR)(acc:List (Nat×Foot))(env:Env)(h:Hp):Prop:=
 match gb with
 |some gb=>folG C gb r h (fun v h' f=>DRun C P ops os (i+1) (((⟨env,h⟩:St).put d v).hp h') (accF acc i f) (zbV C.keep (unst C P K st))) (fun v=>zdU ops i=true∧chk ops acc=true∧zbV C.keep (unst C P K st) (.panic v) ⟨env,h⟩)
 |none=>False
def AXk(C:Cfg)(P:Program)(K:Out→St→Prop)(st:List Fr)(ops:Array Oper)(acc:List (Nat×Foot))(env:Env)(h:Hp):Prop:=chk ops acc=true∧AXt C P K st (zcr C.keep env) h
variable {K:Out→St→Prop}{st:List Fr}{ops:Array Oper}{os:List Oper}{env:Env}{h:Hp}
@[congr] theorem AXs_congr {c:Code}{env':Env}{h':Hp}(e:env=env')(e':h=h'):AXs C P K st c env h=AXs C P K st c env' h':=by rw [e,e']
@[congr] theorem AXc_congr {x y:Code}{b b':V}{env':Env}{h':Hp}(eb:b=b')(e:env=env')(e':h=h'):AXc C P K st x y b env h=AXc C P K st x y b' env' h':=by rw [eb,e,e']
@[congr] theorem AXt_congr {env':Env}{h':Hp}(e:env=env')(e':h=h'):AXt C P K st env h=AXt C P K st env' h':=by rw [e,e']
@[congr] theorem AXf1_congr {d:Option Tmp}{r r':SR}(e:r=r'):AXf1 C P K st ops os d r env h=AXf1 C P K st ops os d r' env h:=by rw [e]
@[congr] theorem AXg1_congr {d:Option Tmp}{gb gb':Option Bool}{r r':SR}(eb:gb=gb')(e:r=r'):AXg1 C P K st ops os d gb r env h=AXg1 C P K st ops os d gb' r' env h:=by rw [e,eb]
@[congr] theorem AXf2_congr {i:Nat}{d:Option Tmp}{r r':SR}{acc:List (Nat×Foot)}(e:r=r'):AXf2 C P K st ops os i d r acc env h=AXf2 C P K st ops os i d r' acc env h:=by rw [e]
@[congr] theorem AXg2_congr {i:Nat}{d:Option Tmp}{gb gb':Option Bool}{r r':SR}{acc:List (Nat×Foot)}(eb:gb=gb')(e:r=r'):AXg2 C P K st ops os i d gb r acc env h=AXg2 C P K st ops os i d gb' r' acc env h:=by rw [e,eb]
@[congr] theorem AXk_congr {acc acc':List (Nat×Foot)}(ea:acc=acc'):AXk C P K st ops acc env h=AXk C P K st ops acc' env h:=by rw [ea]
theorem AXs.of {c:Code}{s:St}(h:AXs C P K [] c s.env s.h):AXf C P c s K:=h
def AXp(C:Cfg)(P:Program)(K:Out→St→Prop)(st:List Fr)(x y:Code)(b:Bool)(env:Env)(h:Hp):Prop:=AXs C P K ((if b=true then .sem y else .seq y)::st) x env h
theorem axs_seq(x y:Code):AXs C P K st (.seq x y) env h=AXp C P K st x y (zbq x) env h:=by unfold AXp AXs;rw [AXf];cases zbq x<;>rfl
theorem zAn(x y:Code):AXp C P K st x y false env h=AXs C P K (.seq y::st) x env h:=rfl
theorem axp_true(x y:Code):AXp C P K st x y true env h=AXs C P K (.sem y::st) x env h:=rfl
theorem zo0(x:Code):zbq (.loop x)=true:=rfl
theorem zmB(i:Nat)(x:Code):zbq (.block i x)=zbq x:=rfl
theorem ztq(x y:Code):zbq (.seq x y)=zbq y:=rfl
theorem zo2(c:Operand)(x y:Code):zbq (.cond c x y)=(zbq x||zbq y):=rfl
theorem zkS(i:Nat)(o:Array Oper)(d:Bool):zbq (.region i o d)=false:=rfl
theorem zoZ:zbq .skip=false:=rfl
theorem ztr:zbq .ret=false:=rfl
theorem zo1(i:Nat):zbq (.exit i)=false:=rfl
def AXa(C:Cfg)(P:Program)(K:Out→St→Prop)(st:List Fr)(y:Code)(env:Env)(h:Hp):Prop:=AX C P y ⟨env,h⟩ (unst C P K st)
theorem znE(y:Code):AXs C P K (.sem y::st) .skip env h=AXa C P K st y env h:=rfl
theorem znH(i:Nat)(y:Code):AXs C P K (.sem y::st) (.exit i) env h=AXs C P K st (.exit i) env h:=rfl
theorem zpN(y:Code):AXs C P K (.sem y::st) .ret env h=AXs C P K st .ret env h:=rfl
theorem AXa.go {y:Code}(hm:P.follows .mixedOrders=true)(hΓ:∀ f args r,C.Γ f args=some r→PCall P f args r)(hΔ:∀ f args H r,C.Δ f args H=some r→HCall P f args H r)(hok:zas C.nt y=true)(hx:AXs C P K st y env h):AXa C P K st y env h:=
 zcV hm ⟨hΓ,hΔ⟩ y _ _ hok hx
theorem AXa.sub {y:Code}{env':Env}{h':Hp}(hs:Sub C ⟨env,h⟩ ⟨env',h'⟩)(hx:AXa C P K st y env' h'):AXa C P K st y env h:=AX.sub hs hx
theorem AXa.freeze {y:Code}{env':Env}{h':Hp}{F:Nat→Prop}(hW:C.Wm=[])(hs:Fz C.nx F ⟨env,h⟩ ⟨env',h'⟩)(hx:AXa C P K st y env' h'):AXa C P K st y env h:=AX.freeze hW hs hx
theorem zAl(i:Nat)(x:Code):AXs C P K st (.block i x) env h=AXs C P K (.block i::st) x env h:=rfl
theorem znD(y:Code):AXs C P K (.seq y::st) .skip env h=AXs C P K st y env h:=rfl
theorem ziL(i:Nat):AXs C P K (.block i::st) .skip env h=AXs C P K st .skip env h:=rfl
theorem znF:AXs C P K [] .skip env h=K .norm ⟨env,h⟩:=rfl
theorem znG(i:Nat)(y:Code):AXs C P K (.seq y::st) (.exit i) env h=AXs C P K st (.exit i) env h:=rfl
theorem ziM(i j:Nat):AXs C P K (.block j::st) (.exit i) env h=if i=j then AXs C P K st .skip env h else AXs C P K st (.exit i) env h:=rfl
theorem znI(i:Nat):AXs C P K [] (.exit i) env h=K (.exit i) ⟨env,h⟩:=rfl
theorem zpM(y:Code):AXs C P K (.seq y::st) .ret env h=AXs C P K st .ret env h:=rfl
theorem zlo(i:Nat):AXs C P K (.block i::st) .ret env h=AXs C P K st .ret env h:=rfl
theorem zpO:AXs C P K [] .ret env h=K .ret ⟨env,h⟩:=rfl
theorem axs_cond(c:Operand)(x y:Code):AXs C P K st (.cond c x y) env h=AXc C P K st x y (ev env c) env h:=by unfold AXs AXc AXf;rfl
def AXm(C:Cfg)(P:Program)(K:Out→St→Prop)(st:List Fr)(os:List Oper)(n:Option (Option Tmp×Operand×List Oper))(env:Env)(h:Hp):Prop:=ARunN C P ⟨os⟩ n ⟨env,h⟩ (zbV C.keep (unst C P K st))
def AXw(C:Cfg)(P:Program)(K:Out→St→Prop)(st:List Fr)(ops:Array Oper)(os:List Oper)(d:Option Tmp)(c:Prop)(x:V)(env:Env)(h:Hp):Prop:=ANext C P ops os d c (zjK x h) ⟨env,h⟩ (zbV C.keep (unst C P K st))
def AXl(C:Cfg)(P:Program)(K:Out→St→Prop)(st:List Fr)(os:List Oper)(n:Option (Nat×Op×Nat))(env:Env)(h:Hp):Prop:=DRunN C P ⟨os⟩ n ⟨env,h⟩ (zbV C.keep (unst C P K st))
def AXe(C:Cfg)(P:Program)(K:Out→St→Prop)(st:List Fr)(ops:Array Oper)(i0:Nat)(op0:Op)(j0:Nat)(os:List Oper)(i:Nat)(acc:List (Nat×Foot))(r:Option LK)(env:Env)(h:Hp):Prop:=
 zBb C P ops i0 op0 j0 os i ⟨env,h⟩ acc r (zbV C.keep (unst C P K st))
def lateA(b:Bool)(W:List Nat)(h' h:Hp):Prop:=match b with|true=>W=[]∧h'=h|false=>True
def lateB1(b:Bool)(C:Cfg)(P:Program)(op0:Op)(r:Option LK)(h:Hp)(f:Foot):Prop:=match b with|true=>(match r with|some r=>zrN C P op0 r h f|none=>False)|false=>True
def lateR(b:Bool)(env:Env)(h:Hp)(v:V)(f:Foot)(r:Option LK):Option LK:=match b with|true=>some ⟨⟨env,h⟩,v,f⟩|false=>r
theorem axs_run(i:Nat)(os:List Oper):AXs C P K st (.region i ⟨os⟩ false) env h=AXm C P K st os (zfb os) env h:=rfl
theorem axs_draw(i:Nat)(os:List Oper):AXs C P K st (.region i ⟨os⟩ true) env h=AXl C P K st os (zfd os) env h:=rfl
theorem axm_none:AXm C P K st os none env h=AXr C P K st ⟨os⟩ os env h:=rfl
theorem axm_some(d:Option Tmp)(it:Operand)(r:List Oper):AXm C P K st os (some (d,it,r)) env h=AXw C P K st ⟨os⟩ r d (ev env it).cond (rho env it) env h:=rfl
theorem axl_none:AXl C P K st os none env h=AXd C P K st ⟨os⟩ os 0 [] env h:=rfl
theorem axl_some(i0:Nat)(op0:Op)(j0:Nat):AXl C P K st os (some (i0,op0,j0)) env h=AXe C P K st ⟨os⟩ i0 op0 j0 os 0 [] none env h:=rfl
theorem zsS:zfb []=none:=rfl
def zO:Op→Bool
 | .next _ _=>false
 |_=>true
def nextX:=@zfb
theorem zsR(dst:Option Tmp)(it:Operand)(type:TypeId)(pos:String)(after:Array Edge)(r:List Oper):nextX ({ dst,op:=.next it false,type,pos,after,guard:=none }::r)=some (dst,it,r):=rfl
theorem zmg(a b):zO (.next a b)=false:=rfl
theorem zoN(dst:Option Tmp)(op:Op)(type:TypeId)(pos:String)(after:Array Edge)(g:Option (Nat×Bool))(r:List Oper):zfb ({ dst,op,type,pos,after,guard:=g }::r)=bif zO op then none else nextX ({ dst,op,type,pos,after,guard:=g }::r):=by
 cases h:zO op with
 |false=>rfl
 |true=>
  unfold zfb;cases op<;>first|rfl|cases h
theorem zxT(a):isEn (.move a)=false:=rfl
theorem zxO(a):isLk (.move a)=false:=rfl
theorem zmh(a):zO (.move a)=true:=rfl
theorem zo8(a):isEn (.assign a)=false:=rfl
theorem zo5(a):isLk (.assign a)=false:=rfl
theorem ziv(a):zO (.assign a)=true:=rfl
theorem zxS(a)(b)(c):isEn (.pick a b c)=false:=rfl
theorem zxN(a)(b)(c):isLk (.pick a b c)=false:=rfl
theorem zmf(a)(b)(c):zO (.pick a b c)=true:=rfl
theorem ztP(a):isEn (.alloc a)=false:=rfl
theorem ztD(a):isLk (.alloc a)=false:=rfl
theorem zkG(a):zO (.alloc a)=true:=rfl
theorem isEn_box(a)(b):isEn (.box a b)=false:=rfl
theorem isLk_box(a)(b):isLk (.box a b)=false:=rfl
theorem zoL(a)(b):zO (.box a b)=true:=rfl
theorem ztN(a)(b):isEn (.build a b)=false:=rfl
theorem ztB(a)(b):isLk (.build a b)=false:=rfl
theorem zkE(a)(b):zO (.build a b)=true:=rfl
theorem zhP(a)(b)(c):isEn (.buildSlice a b c)=false:=rfl
theorem zhM(a)(b)(c):isLk (.buildSlice a b c)=false:=rfl
theorem zfa(a)(b)(c):zO (.buildSlice a b c)=true:=rfl
theorem zo7(a)(b)(c)(d):isEn (.insert a b c d)=false:=rfl
theorem zo4(a)(b)(c)(d):isLk (.insert a b c d)=false:=rfl
theorem ziu(a)(b)(c)(d):zO (.insert a b c d)=true:=rfl
theorem zxU(a)(b):isEn (.load a b)=false:=rfl
theorem zxP(a)(b):isLk (.load a b)=false:=rfl
theorem zmi(a)(b):zO (.load a b)=true:=rfl
theorem ztF(a)(b)(c):isEn (.store a b c)=false:=rfl
theorem ztt(a)(b)(c):isLk (.store a b c)=false:=rfl
theorem zkw(a)(b)(c):zO (.store a b c)=true:=rfl
theorem ztH(a):isEn (.ready a)=false:=rfl
theorem ztv(a):isLk (.ready a)=false:=rfl
theorem zky(a):zO (.ready a)=true:=rfl
theorem ztE(a):isEn (.waits a)=false:=rfl
theorem zts(a):isLk (.waits a)=false:=rfl
theorem zkv(a):zO (.waits a)=true:=rfl
theorem zkX(a):isEn (.nilCheck a)=false:=rfl
theorem zkT(a):isLk (.nilCheck a)=false:=rfl
theorem zgk(a):zO (.nilCheck a)=true:=rfl
theorem ztO(a)(b)(c)(d)(e):isEn (.binOp a b c d e)=false:=rfl
theorem ztC(a)(b)(c)(d)(e):isLk (.binOp a b c d e)=false:=rfl
theorem zkF(a)(b)(c)(d)(e):zO (.binOp a b c d e)=true:=rfl
theorem zxR(a)(b)(c):isEn (.unOp a b c)=false:=rfl
theorem zxM(a)(b)(c):isLk (.unOp a b c)=false:=rfl
theorem zme(a)(b)(c):zO (.unOp a b c)=true:=rfl
theorem zmJ(a)(b)(c):isEn (.convert a b c)=false:=rfl
theorem zmF(a)(b)(c):isLk (.convert a b c)=false:=rfl
theorem zhz(a)(b)(c):zO (.convert a b c)=true:=rfl
theorem zc6(a)(b):isEn (.sliceToArrayPointer a b)=false:=rfl
theorem zc5(a)(b):isLk (.sliceToArrayPointer a b)=false:=rfl
theorem zcy(a)(b):zO (.sliceToArrayPointer a b)=true:=rfl
theorem zfh(a)(b):isEn (.makeInterface a b)=false:=rfl
theorem zfg(a)(b):isLk (.makeInterface a b)=false:=rfl
theorem zdV(a)(b):zO (.makeInterface a b)=true:=rfl
theorem zkZ(a)(b)(c):isEn (.makeFunc a b c)=false:=rfl
theorem zkV(a)(b)(c):isLk (.makeFunc a b c)=false:=rfl
theorem zgm(a)(b)(c):zO (.makeFunc a b c)=true:=rfl
theorem zmH(a)(b):isEn (.makeMap a b)=false:=rfl
theorem zmC(a)(b):isLk (.makeMap a b)=false:=rfl
theorem zhx(a)(b):zO (.makeMap a b)=true:=rfl
theorem zk0(a)(b):isEn (.makeChan a b)=false:=rfl
theorem zkW(a)(b):isLk (.makeChan a b)=false:=rfl
theorem zgn(a)(b):zO (.makeChan a b)=true:=rfl
theorem ziE(a)(b)(c):isEn (.makeSlice a b c)=false:=rfl
theorem ziA(a)(b)(c):isLk (.makeSlice a b c)=false:=rfl
theorem zfO(a)(b)(c):zO (.makeSlice a b c)=true:=rfl
theorem ztG(a)(b)(c)(d)(e):isEn (.slice a b c d e)=false:=rfl
theorem ztu(a)(b)(c)(d)(e):isLk (.slice a b c d e)=false:=rfl
theorem zkx(a)(b)(c)(d)(e):zO (.slice a b c d e)=true:=rfl
theorem ziG(a)(b)(c):isEn (.fieldAddr a b c)=false:=rfl
theorem ziC(a)(b)(c):isLk (.fieldAddr a b c)=false:=rfl
theorem zfQ(a)(b)(c):zO (.fieldAddr a b c)=true:=rfl
theorem ztL(a)(b)(c):isEn (.field a b c)=false:=rfl
theorem ztz(a)(b)(c):isLk (.field a b c)=false:=rfl
theorem zkC(a)(b)(c):zO (.field a b c)=true:=rfl
theorem ziF(a)(b)(c):isEn (.indexAddr a b c)=false:=rfl
theorem ziB(a)(b)(c):isLk (.indexAddr a b c)=false:=rfl
theorem zfP(a)(b)(c):zO (.indexAddr a b c)=true:=rfl
theorem ztK(a)(b)(c):isEn (.index a b c)=false:=rfl
theorem zty(a)(b)(c):isLk (.index a b c)=false:=rfl
theorem zkB(a)(b)(c):zO (.index a b c)=true:=rfl
theorem ziD(a)(b)(c)(d):isEn (.mapUpdate a b c d)=false:=rfl
theorem ziz(a)(b)(c)(d):isLk (.mapUpdate a b c d)=false:=rfl
theorem zfN(a)(b)(c)(d):zO (.mapUpdate a b c d)=true:=rfl
theorem zkY(a)(b)(c):isEn (.mapEntry a b c)=true:=rfl
theorem zkU(a)(b)(c):isLk (.mapEntry a b c)=false:=rfl
theorem zgl(a)(b)(c):zO (.mapEntry a b c)=true:=rfl
theorem zhO(a)(b)(c)(d):isEn (.entryStore a b c d)=false:=rfl
theorem zhL(a)(b)(c)(d):isLk (.entryStore a b c d)=false:=rfl
theorem ze9(a)(b)(c)(d):zO (.entryStore a b c d)=true:=rfl
theorem ztI(a)(b):isEn (.range a b)=false:=rfl
theorem ztw(a)(b):isLk (.range a b)=false:=rfl
theorem zkz(a)(b):zO (.range a b)=true:=rfl
theorem ztM(a):isEn (.entry a)=false:=rfl
theorem ztA(a):isLk (.entry a)=false:=rfl
theorem zkD(a):zO (.entry a)=true:=rfl
theorem zhN(a)(b)(c)(d):isEn (.typeAssert a b c d)=false:=rfl
theorem zhK(a)(b)(c)(d):isLk (.typeAssert a b c d)=false:=rfl
theorem ze8(a)(b)(c)(d):zO (.typeAssert a b c d)=true:=rfl
theorem zmI(a)(b):isEn (.extract a b)=false:=rfl
theorem zmE(a)(b):isLk (.extract a b)=false:=rfl
theorem zhy(a)(b):zO (.extract a b)=true:=rfl
theorem zxV(a):isEn (.call a)=false:=rfl
theorem zxQ(a):isLk (.call a)=false:=rfl
theorem zmj(a):zO (.call a)=true:=rfl
theorem ztJ(a):isEn (.panic a)=false:=rfl
theorem ztx(a):isLk (.panic a)=false:=rfl
theorem zkA(a):zO (.panic a)=true:=rfl
theorem zo6(a b c d):isEn (.lookup a b c d)=false:=rfl
theorem zo3(a b c):isLk (.lookup a b c false)=true:=rfl
theorem zmD(a b c):isLk (.lookup a b c true)=false:=rfl
theorem zit(a b c d):zO (.lookup a b c d)=true:=rfl
theorem zoU(os:List Oper):zfd os=match zix os 0 with|none=>none|some j=>ziy os 0 none j:=rfl
theorem zxA(j:Nat):zix [] j=none:=rfl
theorem ztk(dst:Option Tmp)(op:Op)(type:TypeId)(pos:String)(after:Array Edge)(g:Option (Nat×Bool))(r:List Oper)(j:Nat):zix ({ dst,op,type,pos,after,guard:=g }::r) j=bif isEn op then some j else zix r (j+1):=by
 show (match isEn op with|true=>_|false=>_)=_;cases isEn op<;>rfl
theorem zxC(i:Nat)(x:Option Op)(j:Nat):ziy [] i x j=none:=rfl
theorem zrG(x y:Code):AXc C P K st x y (.bool true) env h=AXs C P K st x env h:=by simp [AXc]
theorem znJ(x y:Code):AXc C P K st x y (.bool false) env h=AXs C P K st y env h:=by simp [AXc]
theorem AXc.intro {x y:Code}{b:Bool}(h1:b=true→AXs C P K st x env h)(h2:b=false→AXs C P K st y env h):AXc C P K st x y (.bool b) env h:=by
 cases b with
 |true=>rw [zrG];exact h1 rfl
 |false=>rw [znJ];exact h2 rfl
theorem axt_eq:AXt C P K st env h=AXs C P K st .skip env h:=rfl
theorem axr_nil:AXr C P K st ops [] env h=AXt C P K st (zcr C.keep env) h:=rfl
theorem axr_cons(dst:Option Tmp)(op:Op)(type:TypeId)(pos:String)(after:Array Edge):
 AXr C P K st ops ({ dst,op,type,pos,after,guard:=none }::os) env h=AXf1 C P K st ops os dst (step1 C P env op h) env h:=rfl
theorem zAu(d:Tmp)(b:Bool)(pre:Prop)(v:V)(h':Hp)(R W:List Nat)(lo hi:Nat):AXf1 C P K st ops os (some d) (.ok b pre v h' ⟨R,W,lo,hi⟩) env h=(pre∧wok C W=true∧AXr C P K st ops os ((d,v)::env) h'):=rfl
theorem zAv(b:Bool)(pre:Prop)(v:V)(h':Hp)(R W:List Nat)(lo hi:Nat):AXf1 C P K st ops os none (.ok b pre v h' ⟨R,W,lo,hi⟩) env h=(pre∧wok C W=true∧AXr C P K st ops os env h'):=rfl
theorem axf1_pan(d:Option Tmp)(pre:Prop)(v:V)(R:List Nat):AXf1 C P K st ops os d (.pan pre v R) env h=(pre∧K (.panic v) ⟨env,h⟩):=by show (pre∧unst C P K st (.panic v) _)=_;rw [zbX]
def getO:List Oper→Nat→Option Tmp
 |[],_=>none
 |o::r,i=>bif i==0 then o.dst else getO r (i - 1)
theorem zmO(o:Oper)(r:List Oper)(i:Nat):getO (o::r) i=bif i==0 then o.dst else getO r (i - 1):=rfl
theorem zx3:∀(os:List Oper) (i:Nat),(os[i]?).bind (·.dst)=getO os i
 |[],_=>rfl
 |o::r,0=>rfl
 |o::r,i+1=>by rw [List.getElem?_cons_succ,zx3 r i,zmO];rfl
def zf6(v:V)(want:Bool):Option Bool:=
 match v with
 | .bool b=>some (b==want)
 | .opt c (.bool b)=>some (c&&(b==want))
 | .opt false _=>some false
 | .tup []=>some false
 |_=>none
theorem guardV_t(b:Bool):zf6 (.bool b) true=some b:=by cases b<;>rfl
theorem guardV_f(b:Bool):zf6 (.bool b) false=some (!b):=by cases b<;>rfl
theorem zx1(c b:Bool):zf6 (.opt c (.bool b)) true=some (c&&b):=by cases b<;>rfl
theorem zx2(c b:Bool):zf6 (.opt c (.bool b)) false=some (c&& !b):=by cases b<;>rfl
def zmN(o:Option Tmp)(env:Env)(want:Bool):Option Bool:=
 match o with
 |some d=>zf6 (zdK env d) want
 |none=>none
theorem zpc(d:Tmp)(env:Env)(want:Bool):zmN (some d) env want=zf6 (zdK env d) want:=rfl
theorem zx0(os:List Oper)(env:Env)(o:Oper)(j:Nat)(want:Bool)(hg:o.guard=some (j,want)):gval ⟨os⟩ env o=zmN (getO os j) env want:=by
 unfold gval;rw [hg];have e:((⟨os⟩:Array Oper)[j]?).bind (·.dst)=getO os j:=by rw [←zx3];simp
 simp only [e];unfold zmN;cases hd:getO os j with
 |none=>rfl
 |some d=>
  simp only [];rw [←zdr];cases env.lookup d with
  |none=>rfl
  |some v=>
   cases v with
   |opt c v=>cases v<;>cases c<;>rfl
   |tup l=>cases l<;>rfl
   |_=>rfl
theorem zAm(os0:List Oper)(dst:Option Tmp)(op:Op)(type:TypeId)(pos:String)(after:Array Edge)(j:Nat)(want:Bool):
 AXr C P K st ⟨os0⟩ ({ dst,op,type,pos,after,guard:=some (j,want) }::os) env h=AXg1 C P K st ⟨os0⟩ os dst (zmN (getO os0 j) env want) (step1 C P env op h) env h:=by
 rw [←zx0 os0 env { dst,op,type,pos,after,guard:=some (j,want) } j want rfl]
 unfold AXr AXg1
 rfl
theorem zAp(d:Tmp)(gb:Bool)(pre:Prop)(v:V)(h':Hp)(R W:List Nat)(lo hi:Nat):AXg1 C P K st ops os (some d) (some gb) (.ok true pre v h' ⟨R,W,lo,hi⟩) env h=((gb=true→pre)∧AXr C P K st ops os ((d,.opt gb v)::env) h):=rfl
theorem zAq(gb:Bool)(pre:Prop)(v:V)(h':Hp)(R W:List Nat)(lo hi:Nat):AXg1 C P K st ops os none (some gb) (.ok true pre v h' ⟨R,W,lo,hi⟩) env h=((gb=true→pre)∧AXr C P K st ops os env h):=rfl
theorem AXg1.pan {d:Tmp}{gb:Bool}{pre:Prop}{v:V}{R:List Nat}(h1:gb=true→pre∧K (.panic v) ⟨env,h⟩)(h2:gb=false→AXr C P K st ops os ((d,undefV)::env) h):AXg1 C P K st ops os (some d) (some gb) (.pan pre v R) env h:=by
 show (if gb=true then(pre∧unst C P K st (.panic v) _)else _);cases gb with
 |true=>rw [if_pos rfl,zbX];exact h1 rfl
 |false=>rw [if_neg (by simp)];exact h2 rfl
theorem axd_nil(i:Nat)(acc:List (Nat×Foot)):AXd C P K st ops [] i acc env h=AXk C P K st ops acc env h:=rfl
theorem axd_cons(dst:Option Tmp)(op:Op)(type:TypeId)(pos:String)(after:Array Edge)(i:Nat)(acc:List (Nat×Foot)):
 AXd C P K st ops ({ dst,op,type,pos,after,guard:=none }::os) i acc env h=AXf2 C P K st ops os i dst (step1 C P env op h) acc env h:=rfl
theorem zAw(os0:List Oper)(dst:Option Tmp)(op:Op)(type:TypeId)(pos:String)(after:Array Edge)(j:Nat)(want:Bool)(i:Nat)(acc:List (Nat×Foot)):
 AXd C P K st ⟨os0⟩ ({ dst,op,type,pos,after,guard:=some (j,want) }::os) i acc env h=AXg2 C P K st ⟨os0⟩ os i dst (zmN (getO os0 j) env want) (step1 C P env op h) acc env h:=by
 rw [←zx0 os0 env { dst,op,type,pos,after,guard:=some (j,want) } j want rfl]
 unfold AXd AXg2
 rfl
def accM(acc:List (Nat×Foot))(i:Nat)(R W:List Nat)(lo hi:Nat):List (Nat×Foot):=bif R.isEmpty&&W.isEmpty&&lo==hi then acc else(i,⟨R,W,lo,hi⟩)::acc
theorem zpS(acc:List (Nat×Foot))(i:Nat)(R W:List Nat)(lo hi:Nat):accF acc i ⟨R,W,lo,hi⟩=accM acc i R W lo hi:=by unfold accF Foot.idle accM;cases (R.isEmpty&&W.isEmpty&&lo==hi)<;>rfl
theorem zAH(acc:List (Nat×Foot))(i lo hi:Nat):accM acc i [] [] lo hi=bif lo==hi then acc else(i,⟨[],[],lo,hi⟩)::acc:=rfl
theorem accM_r(acc:List (Nat×Foot))(i b:Nat)(R W:List Nat)(lo hi:Nat):accM acc i (b::R) W lo hi=(i,⟨b::R,W,lo,hi⟩)::acc:=rfl
theorem accM_w(acc:List (Nat×Foot))(i b:Nat)(W:List Nat)(lo hi:Nat):accM acc i [] (b::W) lo hi=(i,⟨[],b::W,lo,hi⟩)::acc:=rfl
theorem zAs(i:Nat)(d:Tmp)(b:Bool)(pre:Prop)(v:V)(h':Hp)(R W:List Nat)(lo hi:Nat)(acc:List (Nat×Foot)):AXf2 C P K st ops os i (some d) (.ok b pre v h' ⟨R,W,lo,hi⟩) acc env h=
 (pre∧wok C W=true∧AXd C P K st ops os (i+1) (accM acc i R W lo hi) ((d,v)::env) h'):=by rw [←zpS];rfl
theorem zAt(i:Nat)(b:Bool)(pre:Prop)(v:V)(h':Hp)(R W:List Nat)(lo hi:Nat)(acc:List (Nat×Foot)):AXf2 C P K st ops os i none (.ok b pre v h' ⟨R,W,lo,hi⟩) acc env h=
 (pre∧wok C W=true∧AXd C P K st ops os (i+1) (accM acc i R W lo hi) env h'):=by rw [←zpS];rfl
theorem axe_nil(i0:Nat)(op0:Op)(j0:Nat)(i:Nat)(acc:List (Nat×Foot))(l:Option LK):AXe C P K st ops i0 op0 j0 [] i acc l env h=(chkX ops i0 j0 acc=true∧AXt C P K st (zcr C.keep env) h):=rfl
theorem lateA_f(W:List Nat)(h' h:Hp):lateA false W h' h=True:=rfl
theorem lateA_t(W:List Nat)(h' h:Hp):lateA true W h' h=(W=[]∧h'=h):=rfl
theorem lateB_f(op0:Op)(r:Option LK)(h:Hp)(f:Foot):lateB1 false C P op0 r h f=True:=rfl
theorem lateR_f(env:Env)(h:Hp)(v:V)(f:Foot)(r:Option LK):lateR false env h v f r=r:=rfl
theorem lateR_t(env:Env)(h:Hp)(v:V)(f:Foot)(r:Option LK):lateR true env h v f r=some ⟨⟨env,h⟩,v,f⟩:=rfl
theorem lateK_ok(b:Bool)(pre:Prop)(v v':V)(h h':Hp)(f f':Foot):LateK (.ok b pre v' h' f') h v f=(pre∧v'=v∧h'=h∧f'=f):=rfl
theorem axf2_pan(i:Nat)(d:Option Tmp)(pre:Prop)(v:V)(R:List Nat)(acc:List (Nat×Foot)):AXf2 C P K st ops os i d (.pan pre v R) acc env h=(pre∧zdU ops i=true∧chk ops acc=true∧K (.panic v) ⟨env,h⟩):=by show (pre∧zdU ops i=true∧chk ops acc=true∧unst C P K st (.panic v) _)=_;rw [zbX]
theorem zAo(i:Nat)(d:Tmp)(gb:Bool)(pre:Prop)(v:V)(h':Hp)(R W:List Nat)(lo hi:Nat)(acc:List (Nat×Foot)):AXg2 C P K st ops os i (some d) (some gb) (.ok true pre v h' ⟨R,W,lo,hi⟩) acc env h=
 ((gb=true→pre)∧AXd C P K st ops os (i+1) (accM acc i R [] 0 0) ((d,.opt gb v)::env) h):=by rw [←zpS];rfl
theorem AXg2.pan {i:Nat}{d:Tmp}{gb:Bool}{pre:Prop}{v:V}{R:List Nat}{acc:List (Nat×Foot)}(h1:gb=true→pre∧zdU ops i=true∧chk ops acc=true∧K (.panic v) ⟨env,h⟩)
 (h2:gb=false→AXd C P K st ops os (i+1) (accF acc i ⟨[],[],0,0⟩) ((d,undefV)::env) h):AXg2 C P K st ops os i (some d) (some gb) (.pan pre v R) acc env h:=by
 show (if gb=true then(pre∧zdU ops i=true∧chk ops acc=true∧unst C P K st (.panic v) _)else _)
 cases gb with
 |true=>rw [if_pos rfl,zbX];exact h1 rfl
 |false=>rw [if_neg (by simp)];exact h2 rfl
theorem axk_nil:AXk C P K st ops [] env h=AXt C P K st (zcr C.keep env) h:=by show (chk ops []=true∧_)=_;simp [chk]
theorem AXk.intro {acc:List (Nat×Foot)}(h1:chk ops acc=true)(h2:AXt C P K st (zcr C.keep env) h):AXk C P K st ops acc env h:=⟨h1,h2⟩
def zqk:List (Nat×Foot)→Bool
 |[]=>true
 |(_,f)::r=>f.still&&zqk r
theorem zsa:zqk []=true:=rfl
theorem zn1(i:Nat)(R W:List Nat)(lo hi:Nat)(r:List (Nat×Foot)):zqk ((i,⟨R,W,lo,hi⟩)::r)=(W.isEmpty&&lo==hi&&zqk r):=rfl
theorem wok_nil:wok C []=true:=rfl
theorem wok_cons(b:Nat)(W:List Nat):wok C (b::W)=((decide (C.nx≤b)||C.Wm.contains b)&&wok C W):=rfl
def mkSR(st:Bool)(c:Prop)(r:AR)(H:Hp):SR:=.ok st (c∧r.pre) r.v r.h ⟨r.R,r.W,H.next,r.h.next⟩
@[congr] theorem mkSR_congr {st:Bool}{c c':Prop}{r r':AR}{H:Hp}(hc:c=c')(hr:r=r'):mkSR st c r H=mkSR st c' r' H:=by rw [hc,hr]
theorem mkSR_mk(st:Bool)(c p:Prop)(v:V)(h:Hp)(R W:List Nat)(H:Hp):mkSR st c ⟨p,v,h,R,W⟩ H=.ok st (c∧p) v h ⟨R,W,H.next,h.next⟩:=rfl
theorem next_mk(bs:List (Nat×Blk))(n:Nat):Hp.next ⟨bs,n⟩=n:=rfl
theorem zX {op:Op}{env:Env}{H:Hp}{c:Prop}{r:AR}(h1:step1 C P env op H=.ok (zex op) (needs (op.operands.toList.map (ev env))∧(aop P (rho env) op H).pre) (aop P (rho env) op H).v (aop P (rho env) op H).h
 ⟨(aop P (rho env) op H).R,(aop P (rho env) op H).W,H.next,(aop P (rho env) op H).h.next⟩) (h2:needs (op.operands.toList.map (ev env))↔c) (h3:aop P (rho env) op H=r):step1 C P env op H=mkSR (zex op) c r H:=by
 rw [h1,h3,propext h2];rfl
theorem zsV(v:V)(r:List V):needs (v::r)=(v.cond∧needs r):=rfl
variable {H:Hp}
theorem zse(x:Operand):step1 C P env (.move x) H=mkSR true (ev env x).cond (.val H (ev env x).val) H:=zX rfl (by simp [Op.operands,needs]) rfl
theorem zlN(x:Operand):step1 C P env (.assign x) H=mkSR true (ev env x).cond (.val H (ev env x).val) H:=zX rfl (by simp [Op.operands,needs]) rfl
theorem zsd(c a b:Operand):step1 C P env (.pick c a b) H=zcx (ev env c) (ev env a) (ev env b) H:=rfl
theorem zn8(t:TypeId):step1 C P env (.alloc t) H=mkSR false True (zew P t H) H:=zX rfl (by simp [Op.operands,needs]) rfl
def boxK(b:Bool)(c:Prop)(v:V)(H:Hp):SR:=match b with|true=>.ok true (c∧zt v=true) (.fp v.cellsV) H ⟨[],[],H.next,H.next⟩|false=>mkSR false c (aBox v H) H
theorem zvG(t:TypeId)(x:Operand):step1 C P env (.box t x) H=boxK (C.fz t) (ev env x).cond (ev env x).val H:=by
 show (if C.fz t=true then _ else _)=_;unfold boxK;cases C.fz t with
 |true=>rw [if_pos rfl]
 |false=>rw [if_neg (by simp)];show SR.ok false (needs [ev env x]∧_) _ _ _=mkSR _ _ _ _;unfold mkSR needs needs;simp only [and_true];rfl
theorem zAf(c:Prop)(v:V):boxK true c v H=.ok true (c∧zt v=true) (.fp v.cellsV) H ⟨[],[],H.next,H.next⟩:=rfl
theorem zuJ(c:Prop)(v:V):boxK false c v H=mkSR false c (aBox v H) H:=rfl
theorem zsf(t:TypeId)(x:Operand):step1 C P env (.load t x) H=mkSR true (ev env x).cond (zch P t (ev env x).val H) H:=zX rfl (by simp [Op.operands,needs]) rfl
theorem zn2(t:TypeId)(a x:Operand):step1 C P env (.store t a x) H=mkSR false ((ev env a).cond∧(ev env x).cond) (zdJ P t (ev env a).val (ev env x).val H) H:=zX rfl (by simp [Op.operands,needs]) rfl
theorem zil(x:Operand):step1 C P env (.nilCheck x) H=mkSR true (ev env x).cond (aNil (ev env x).val H) H:=zX rfl (by simp [Op.operands,needs]) rfl
theorem zvH(op:BinOp)(t:TypeId)(x y:Operand)(u:TypeId):step1 C P env (.binOp op t x y u) H=mkSR true ((ev env x).cond∧(ev env y).cond) (aBin P op t (ev env x).val (ev env y).val H) H:=zX rfl (by simp [Op.operands,needs]) rfl
theorem step1_un(op:UnOp)(t:TypeId)(x:Operand):step1 C P env (.unOp op t x) H=mkSR true (ev env x).cond (aUn op (ev env x).val H) H:=zX rfl (by simp [Op.operands,needs]) rfl
theorem zj1(s d:TypeId)(x:Operand):step1 C P env (.convert s d x) H=mkSR false (ev env x).cond (zdb P s d (ev env x).val H) H:=zX rfl (by simp [Op.operands,needs]) rfl
theorem zn5(t:TypeId)(x:Operand):step1 C P env (.makeInterface t x) H=mkSR true (ev env x).cond (zaS P t (ev env x).val H) H:=zX rfl (by simp [Op.operands,needs]) rfl
theorem zim(f:FuncId)(caps:List Operand):step1 C P env (.makeFunc (.func f) #[] ⟨caps⟩) H=mkSR true (needs (caps.map (ev env))) (.val H (.fn f (caps.map (rho env)))) H:=zX rfl (by simp [Op.operands]) rfl
theorem zg3(t:TypeId)(l c:Operand):step1 C P env (.makeSlice t l c) H=mkSR false ((ev env l).cond∧(ev env c).cond) (zaE P t (ev env l).val (ev env c).val H) H:=zX rfl (by simp [Op.operands,needs]) rfl
theorem zjX(t:TypeId)(x l:Operand):step1 C P env (.slice t x (some l) none none) H=mkSR true ((ev env x).cond∧(ev env l).cond) (zaV P t (ev env x).val (some (ev env l).val) none none H) H:=zX rfl (by simp [Op.operands,needs]) rfl
theorem zjY(t:TypeId)(x h:Operand):step1 C P env (.slice t x none (some h) none) H=mkSR true ((ev env x).cond∧(ev env h).cond) (zaV P t (ev env x).val none (some (ev env h).val) none H) H:=zX rfl (by simp [Op.operands,needs]) rfl
theorem zjW(t:TypeId)(x l h:Operand):step1 C P env (.slice t x (some l) (some h) none) H=mkSR true ((ev env x).cond∧(ev env l).cond∧(ev env h).cond) (zaV P t (ev env x).val (some (ev env l).val) (some (ev env h).val) none H) H:=zX rfl (by simp [Op.operands,needs]) rfl
theorem zg6(t:TypeId)(x:Operand)(f:Nat):step1 C P env (.fieldAddr t x f) H=mkSR true (ev env x).cond (zav P t (ev env x).val f H) H:=zX rfl (by simp [Op.operands,needs]) rfl
theorem zg5(t:TypeId)(x i:Operand):step1 C P env (.indexAddr t x i) H=mkSR true ((ev env x).cond∧(ev env i).cond) (zaf P t (ev env x).val (ev env i).val H) H:=zX rfl (by simp [Op.operands,needs]) rfl
theorem zn4(t:TypeId)(x i:Operand):step1 C P env (.index t x i) H=mkSR true ((ev env x).cond∧(ev env i).cond) (zcS P t (ev env x).val (ev env i).val H) H:=zX rfl (by simp [Op.operands,needs]) rfl
theorem zj0(x:Operand)(i:Nat):step1 C P env (.extract x i) H=mkSR true (ev env x).cond (zbe (ev env x).val i H) H:=zX rfl (by simp [Op.operands,needs]) rfl
theorem zvE(t:TypeId)(x:Operand):step1 C P env (.call { callee:=.builtin .len,args:=⟨[x]⟩,argTypes:=⟨[t]⟩ }) H=mkSR true (ev env x).cond (aLen P t (ev env x).val H) H:=zX rfl (by simp [Op.operands,Call.operands,needs]) rfl
theorem zlO(t u:TypeId)(x y:Operand):step1 C P env (.call { callee:=.builtin .append,args:=⟨[x,y]⟩,argTypes:=⟨[t,u]⟩ }) H=mkSR false ((ev env x).cond∧(ev env y).cond) (zcE P t u (ev env x).val (ev env y).val H) H:=zX rfl (by simp [Op.operands,Call.operands,needs]) rfl
theorem zvD(x y:Operand)(ts:Array TypeId):step1 C P env (.call { callee:=.builtin .max,args:=⟨[x,y]⟩,argTypes:=ts }) H=mkSR true ((ev env x).cond∧(ev env y).cond) (aMax (ev env x).val (ev env y).val true H) H:=zX rfl (by simp [Op.operands,Call.operands,needs]) rfl
def zbR(env:Env):List (Nat×Operand)→List (Nat×V)
 |[]=>[]
 |(i,x)::r=>(i,(ev env x).val)::zbR env r
theorem zsK:zbR env []=[]:=rfl
theorem zoz(i:Nat)(x:Operand)(r:List (Nat×Operand)):zbR env ((i,x)::r)=(i,(ev env x).val)::zbR env r:=rfl
theorem zc4:∀ ps:List (Nat×Operand),ps.map (fun p=>(p.1,rho env p.2))=zbR env ps
 |[]=>rfl
 |(i,x)::r=>by rw [List.map_cons,zc4 r];rfl
def zhC(env:Env):List (Nat×Operand)→Prop
 |[]=>True
 |(_,x)::r=>(ev env x).cond∧zhC env r
theorem zsW:zhC env []=True:=rfl
theorem zoO(i:Nat)(x:Operand)(r:List (Nat×Operand)):zhC env ((i,x)::r)=((ev env x).cond∧zhC env r):=rfl
theorem zhB:∀ ps:List (Nat×Operand),needs ((ps.map (·.2)).map (ev env))↔zhC env ps
 |[]=>Iff.rfl
 |_::r=>and_congr Iff.rfl (zhB r)
theorem zn6(t:TypeId)(ps:List (Nat×Operand)):step1 C P env (.build t ⟨ps⟩) H=mkSR true (zhC env ps) (zcU P t (zbR env ps) H) H:=
 zX rfl (by rw [←zhB];simp [Op.operands]) (by rw [←zc4];rfl)
theorem zgi(t:TypeId)(n:Nat)(ps:List (Nat×Operand)):step1 C P env (.buildSlice t n ⟨ps⟩) H=mkSR false (zhC env ps) (zS P t n (zbR env ps) H) H:=
 zX rfl (by rw [←zhB];simp [Op.operands]) (by rw [←zc4];rfl)
theorem zn3(x:Operand):step1 C P env (.panic x) H=match (ev env x).val with| .ifc t v=>.pan (ev env x).cond (.ifc t v) []|_=>.bad:=rfl
def vals(env:Env):List Operand→List V
 |[]=>[]
 |x::r=>(ev env x).val::vals env r
theorem vals_nil:vals env []=[]:=rfl
theorem zvf(x:Operand)(r:List Operand):vals env (x::r)=(ev env x).val::vals env r:=rfl
theorem vals_eq:∀ xs:List Operand,xs.map (rho env)=vals env xs
 |[]=>rfl
 |x::r=>by rw [List.map_cons,vals_eq r];rfl
def conds(env:Env):List Operand→Prop
 |[]=>True
 |x::r=>(ev env x).cond∧conds env r
theorem zyF:conds env []=True:=rfl
theorem zt6(x:Operand)(r:List Operand):conds env (x::r)=((ev env x).cond∧conds env r):=rfl
theorem zgH:∀ xs:List Operand,needs (xs.map (ev env))=conds env xs
 |[]=>rfl
 |x::r=>by rw [List.map_cons,zsV,zgH r];rfl
theorem zg4(f:FuncId)(caps:List Operand):step1 C P env (.makeFunc (.func f) ⟨[]⟩ ⟨caps⟩) H=mkSR true (conds env caps) (.val H (.fn f (vals env caps))) H:=by rw [←vals_eq, ←zgH];exact zim f caps
def callF(C:Cfg)(v:V)(as:List V)(nd:Prop)(H:Hp):SR:=
 match v with
 | .fn f caps=>zcg C f (as++caps) nd H
 | .bnd f fs=>zcg C f (fs++as) nd H
 |_=>.bad
theorem callF_fn(f:FuncId)(caps as:List V)(nd:Prop):callF C (.fn f caps) as nd H=zcg C f (as++caps) nd H:=rfl
theorem zsg(f:Operand)(args:List Operand)(ts:Array TypeId):step1 C P env (.call { callee:=.value f,args:=⟨args⟩,argTypes:=ts }) H=
 callF C (ev env f).val (vals env args) ((ev env f).cond∧conds env args) H:=by
 rw [←vals_eq, ←zgH];rfl
def zm8(o:Option PR)(C:Cfg)(f:FuncId)(as:List V)(nd:Prop)(H:Hp):SR:=
 match o with
 |some (.ret v)=>.ok true nd v H ⟨[],[],0,0⟩
 |some (.panic v)=>.pan nd v []
 |none=>
  match C.Δ f as H with
  |some r=>mkSR false nd r H
  |none=>.bad
def nzs:List V→List V
 |[]=>[]
 |v::r=>nz v::nzs r
theorem nzs_nil:nzs []=[]:=rfl
theorem nzs_cons(v:V)(r:List V):nzs (v::r)=nz v::nzs r:=rfl
theorem nzs_eq:∀ as:List V,as.map nz=nzs as
 |[]=>rfl
 |v::r=>by rw [List.map_cons,nzs_eq r];rfl
theorem nz_bool(b:Bool):nz (.bool b)=.bool b:=rfl
theorem nz_int(k:IntKind)(n:Int):nz (.int k n)=.int k n:=rfl
theorem nz_str(l:List UInt8):nz (.str l)=.str l:=rfl
theorem nz_nilS:nz .nilS=.fs [] 0:=rfl
theorem nz_sl(b o l s:Nat)(k:Option Nat):nz (.sl b o l s k)=.sl b o l s k:=rfl
theorem nz_fs(cs:List V)(n:Nat):nz (.fs cs n)=.fs cs n:=rfl
theorem nz_nilP:nz .nilP=.nilP:=rfl
theorem nz_ptr(b o:Nat):nz (.ptr b o)=.ptr b o:=rfl
theorem nz_fp(cs:List V):nz (.fp cs)=.fp cs:=rfl
theorem nz_nilM:nz .nilM=.nilM:=rfl
theorem nz_map(b:Nat):nz (.map b)=.map b:=rfl
theorem nz_fn(f:FuncId)(cs:List V):nz (.fn f cs)=.fn f cs:=rfl
theorem nz_nilF:nz .nilF=.nilF:=rfl
theorem nz_ifc(t:TypeId)(v:V):nz (.ifc t v)=.ifc t v:=rfl
theorem nz_nilI:nz .nilI=.nilI:=rfl
theorem nz_agg(cs:List V):nz (.agg cs)=.agg cs:=rfl
theorem nz_tup(cs:List V):nz (.tup cs)=.tup cs:=rfl
theorem nz_any:nz .any=.any:=rfl
def zpv(b:Bool)(C:Cfg)(f:FuncId)(as:List V)(nd:Prop)(H:Hp):SR:=
 match b with
 |true=>zm8 (C.Γ f (nzs as)) C f as nd H
 |false=>
  match C.Δ f as H with
  |some r=>mkSR false nd r H
  |none=>
   match C.Γ f (as.map (lend H))with
   |some (.ret v)=>.ok true (nd∧zax v=true) v H ⟨zcd as,[],0,0⟩
   |some (.panic v)=>.pan (nd∧zax v=true) v (zcd as)
   |none=>.bad
theorem call1_eq(f:FuncId)(as:List V)(nd:Prop):zcg C f as nd H=zpv (zcd as).isEmpty C f as nd H:=by
 unfold zcg zpv;cases (zcd as).isEmpty with
 |true=>rw [if_pos rfl, ←nzs_eq];unfold zm8 mkSR;rfl
 |false=>rw [if_neg (by simp)];rfl
theorem zul(f:FuncId)(as:List V)(nd:Prop):zpv true C f as nd H=zm8 (C.Γ f (nzs as)) C f as nd H:=rfl
@[congr] theorem callE_congr {b b':Bool}{f:FuncId}{as:List V}{nd:Prop}(h:b=b'):zpv b C f as nd H=zpv b' C f as nd H:=by rw [h]
theorem lend_sl(b off len sz:Nat)(kc:Option Nat):lend H (.sl b off len sz kc)=ztc (H.get b) b off len sz kc:=rfl
theorem ztb(cs:List V)(b off len sz:Nat)(kc:Option Nat):ztc (some (.cells cs)) b off len sz kc=if off+len*sz≤cs.length then .fs ((cs.drop off).take (len*sz)) len else .sl b off len sz kc:=rfl
theorem zxs(b:Bool):lend H (.bool b)=.bool b:=rfl
theorem lend_int(k:IntKind)(n:Int):lend H (.int k n)=.int k n:=rfl
theorem lend_str(l:List UInt8):lend H (.str l)=.str l:=rfl
theorem zxq:lend H .nilS=.fs [] 0:=rfl
theorem lend_fs(cs:List V)(n:Nat):lend H (.fs cs n)=.fs cs n:=rfl
theorem zxr:lend H .nilP=.nilP:=rfl
theorem lend_ptr(b o:Nat):lend H (.ptr b o)=ztf (H.get b) b o:=rfl
theorem zte(cs:List V)(b off:Nat):ztf (some (.cells cs)) b off=.fp (cs.drop off):=rfl
theorem lend_fp(cs:List V):lend H (.fp cs)=.fp cs:=rfl
theorem lend_map(b:Nat):lend H (.map b)=.map b:=rfl
def zjd(H:Hp):List V→List V
 |[]=>[]
 |v::r=>zes H v::zjd H r
theorem zs9:zjd H []=[]:=rfl
theorem zoS(v:V)(r:List V):zjd H (v::r)=zes H v::zjd H r:=rfl
theorem zmt:∀ vs:List V,vs.map (zes H)=zjd H vs
 |[]=>rfl
 |v::r=>by rw [List.map_cons,zmt r];rfl
theorem lend_fn(f:FuncId)(cs:List V):lend H (.fn f cs)=.fn f (zjd H cs):=by rw [←zmt];rfl
theorem lend0_sl(b off len sz:Nat)(kc:Option Nat):zes H (.sl b off len sz kc)=ztc (H.get b) b off len sz kc:=rfl
theorem zxv(b o:Nat):zes H (.ptr b o)=ztf (H.get b) b o:=rfl
theorem zth(b:Bool):zes H (.bool b)=.bool b:=rfl
theorem zxw(k:IntKind)(n:Int):zes H (.int k n)=.int k n:=rfl
theorem zxu(l:List UInt8):zes H (.str l)=.str l:=rfl
theorem lend0_fs(cs:List V)(n:Nat):zes H (.fs cs n)=.fs cs n:=rfl
theorem lend0_fp(cs:List V):zes H (.fp cs)=.fp cs:=rfl
theorem zsA(b:Bool):zdl (.bool b)=[]:=rfl
theorem zwa(k:IntKind)(n:Int):zdl (.int k n)=[]:=rfl
theorem zv8(l:List UInt8):zdl (.str l)=[]:=rfl
theorem refs1_fs(cs:List V)(n:Nat):zdl (.fs cs n)=[]:=rfl
theorem refs1_fp(cs:List V):zdl (.fp cs)=[]:=rfl
theorem zsy:zdl .nilS=[]:=rfl
theorem zsz:zdl .nilP=[]:=rfl
theorem refs1_sl(b off len sz:Nat)(kc:Option Nat):zdl (.sl b off len sz kc)=[b]:=rfl
theorem zv9(b o:Nat):zdl (.ptr b o)=[b]:=rfl
def zom:List V→List Nat
 |[]=>[]
 |v::r=>zdm v++zom r
theorem zv7:zom []=[]:=rfl
theorem zsx(v:V)(r:List V):zom (v::r)=zdm v++zom r:=rfl
theorem zkf:∀ vs:List V,vs.flatMap zdm=zom vs
 |[]=>rfl
 |v::r=>by rw [List.flatMap_cons,zkf r];rfl
theorem refs1_fn(f:FuncId)(cs:List V):zdl (.fn f cs)=zom cs:=by rw [←zkf];rfl
theorem zwc(cs:List V):zdl (.agg cs)=zom cs:=by rw [←zkf];rfl
theorem refs0_sl(b off len sz:Nat)(kc:Option Nat):zdm (.sl b off len sz kc)=[b]:=rfl
theorem zwf(b o:Nat):zdm (.ptr b o)=[b]:=rfl
theorem zwg(k:IntKind)(n:Int):zdm (.int k n)=[]:=rfl
theorem zwe(l:List UInt8):zdm (.str l)=[]:=rfl
theorem zsD(b:Bool):zdm (.bool b)=[]:=rfl
theorem refs0_fs(cs:List V)(n:Nat):zdm (.fs cs n)=[]:=rfl
theorem refs0_fp(cs:List V):zdm (.fp cs)=[]:=rfl
theorem zxt:zcd []=[]:=rfl
theorem ztd(v:V)(r:List V):zcd (v::r)=zdl v++zcd r:=rfl
theorem zoc(b:Bool):zax (.bool b)=true:=rfl
theorem scalar_int(k:IntKind)(n:Int):zax (.int k n)=true:=rfl
theorem zsn(l:List UInt8):zax (.str l)=true:=rfl
theorem zsm(vs:List V):zax (.tup vs)=vs.all zeL:=rfl
theorem zsp(vs:List V):zax (.agg vs)=vs.all zeL:=rfl
theorem zso(t:TypeId)(v:V):zax (.ifc t v)=zeL v:=rfl
theorem zAy:([]:List V).all zeL=true:=rfl
theorem zuP(v:V)(r:List V):(v::r).all zeL=(zeL v&&r.all zeL):=rfl
theorem zAz(b:Bool):zeL (.bool b)=true:=rfl
theorem atom_int(k:IntKind)(n:Int):zeL (.int k n)=true:=rfl
theorem atom_str(l:List UInt8):zeL (.str l)=true:=rfl
theorem lend_ifc(t:TypeId)(v:V):lend H (.ifc t v)=.ifc t v:=rfl
theorem ztg:zes H .nilS=.fs [] 0:=rfl
theorem zsC:zdm .nilS=[]:=rfl
theorem zyZ(v:V)(f:FuncId)(as:List V)(nd:Prop):zm8 (some (.ret v)) C f as nd H=.ok true nd v H ⟨[],[],0,0⟩:=rfl
theorem zy0(v:V)(f:FuncId)(as:List V)(nd:Prop):zm8 (some (.panic v)) C f as nd H=.pan nd v []:=rfl
@[congr] theorem callG_congr {o o':Option PR}{f:FuncId}{as:List V}{nd:Prop}(h:o=o'):zm8 o C f as nd H=zm8 o' C f as nd H:=by rw [h]
def callM(o:Option AR)(nd:Prop)(H:Hp):SR:=match o with|some r=>mkSR false nd r H|none=>.bad
theorem zuk(f:FuncId)(as:List V)(nd:Prop):zm8 none C f as nd H=callM (C.Δ f as H) nd H:=rfl
theorem zui(r:AR)(nd:Prop):callM (some r) nd H=mkSR false nd r H:=rfl
def zpw(o:Option AR)(C:Cfg)(f:FuncId)(as:List V)(nd:Prop)(H:Hp):SR:=
 match o with
 |some r=>mkSR false nd r H
 |none=>
  match C.Γ f (as.map (lend H))with
  |some (.ret v)=>.ok true (nd∧zax v=true) v H ⟨zcd as,[],0,0⟩
  |some (.panic v)=>.pan (nd∧zax v=true) v (zcd as)
  |none=>.bad
theorem zpu(f:FuncId)(as:List V)(nd:Prop):zpv false C f as nd H=zpw (C.Δ f as H) C f as nd H:=by unfold zpv zpw;rfl
@[congr] theorem callD_congr {o o':Option AR}{f:FuncId}{as:List V}{nd:Prop}(h:o=o'):zpw o C f as nd H=zpw o' C f as nd H:=by rw [h]
theorem zum(r:AR)(f:FuncId)(as:List V)(nd:Prop):zpw (some r) C f as nd H=mkSR false nd r H:=rfl
def zuj(o:Option PR)(as:List V)(nd:Prop)(H:Hp):SR:=
 match o with
 |some (.ret v)=>.ok true (nd∧zax v=true) v H ⟨zcd as,[],0,0⟩
 |some (.panic v)=>.pan (nd∧zax v=true) v (zcd as)
 |none=>.bad
def zta(H:Hp):List V→List V
 |[]=>[]
 |v::r=>lend H v::zta H r
theorem zxp:zta H []=[]:=rfl
theorem zs8(v:V)(r:List V):zta H (v::r)=lend H v::zta H r:=rfl
theorem zqP:∀ as:List V,as.map (lend H)=zta H as
 |[]=>rfl
 |v::r=>by rw [List.map_cons,zqP r];rfl
theorem zun(f:FuncId)(as:List V)(nd:Prop):zpw none C f as nd H=zuj (C.Γ f (zta H as)) as nd H:=by rw [←zqP];unfold zpw zuj;rfl
@[congr] theorem callL_congr {o o':Option PR}{as:List V}{nd:Prop}(h:o=o'):zuj o as nd H=zuj o' as nd H:=by rw [h]
theorem zyX(v:V)(as:List V)(nd:Prop):zuj (some (.ret v)) as nd H=.ok true (nd∧zax v=true) v H ⟨zcd as,[],0,0⟩:=rfl
theorem zyY(v:V)(as:List V)(nd:Prop):zuj (some (.panic v)) as nd H=.pan (nd∧zax v=true) v (zcd as):=rfl
def extΓ(f0:FuncId)(c:List V→Option PR)(Γ:FuncId→List V→Option PR):FuncId→List V→Option PR:=fun f as=>bif f==f0 then c as else Γ f as
def noΓ:FuncId→List V→Option PR:=fun _ _=>none
def zbJ(f0:FuncId)(c:List V→Hp→Option AR)(Δ:FuncId→List V→Hp→Option AR):FuncId→List V→Hp→Option AR:=fun f as H=>bif f==f0 then c as H else Δ f as H
def noΔ:FuncId→List V→Hp→Option AR:=fun _ _ _=>none
theorem zq5(f0:FuncId)(c:List V→Option PR)(Γ:FuncId→List V→Option PR)(f:FuncId)(as:List V):extΓ f0 c Γ f as=bif f==f0 then c as else Γ f as:=rfl
theorem noΓ_at(f:FuncId)(as:List V):noΓ f as=none:=rfl
theorem zq4(f0:FuncId)(c:List V→Hp→Option AR)(Δ:FuncId→List V→Hp→Option AR)(f:FuncId)(as:List V)(H:Hp):zbJ f0 c Δ f as H=bif f==f0 then c as H else Δ f as H:=rfl
theorem noΔ_at(f:FuncId)(as:List V)(H:Hp):noΔ f as H=none:=rfl
def zdc(P:Program)(Γ:FuncId→List V→Option PR):Prop:=∀ f args r,Γ f args=some r→PCall P f args r
def zaT(P:Program)(Δ:FuncId→List V→Hp→Option AR):Prop:=∀ f args H r,Δ f args H=some r→HCall P f args H r
theorem zh:zdc P noΓ:=fun _ _ _ h=>by cases h
theorem zg:zaT P noΔ:=fun _ _ _ _ h=>by cases h
theorem zf {f0:FuncId}{c:List V→Option PR}{Γ:FuncId→List V→Option PR}(h:∀ args r,c args=some r→PCall P f0 args r)(hΓ:zdc P Γ):zdc P (extΓ f0 c Γ):=fun f args r e=>by
 rw [zq5]at e;cases hb:f==f0 with
 |true=>rw [hb]at e;simp at hb;subst hb;exact h _ _ e
 |false=>rw [hb]at e;exact hΓ _ _ _ e
theorem zV {f0:FuncId}{c:List V→Hp→Option AR}{Δ:FuncId→List V→Hp→Option AR}(h:∀ args H r,c args H=some r→HCall P f0 args H r)(hΔ:zaT P Δ):zaT P (zbJ f0 c Δ):=fun f args H r e=>by
 rw [zq4]at e;cases hb:f==f0 with
 |true=>rw [hb]at e;simp at hb;subst hb;exact h _ _ _ e
 |false=>rw [hb]at e;exact hΔ _ _ _ _ e
end Go.Ab
