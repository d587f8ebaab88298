/- How simp is to walk: small rewrite rules, one an operation; what is looked into first, what is left alone. -/
import Derived.Test.YthbimeikbkjnkaaGreatDoorBAbCall
import Derived.Tactics
set_option linter.all false
namespace Go.Ab
variable {C:Cfg}{P:Program}
def zdJ:Env→Nat→V
 |[],_=>.any
 |(k,v)::r,t=>bif t==k then v else zdJ r t
theorem zwN(t:Nat):zdJ [] t=.any:=rfl
theorem ziV(k:Nat)(v:V)(r:Env)(t:Nat):zdJ ((k,v)::r) t=bif t==k then v else zdJ r t:=rfl
theorem zdo:∀(env:Env) (t:Nat),(env.lookup t).getD .any=zdJ env t
 |[],_=>rfl
 |(k,v)::r,t=>by rw [List.lookup_cons,ziV, ←zdo r t];cases t==k<;>rfl
theorem ev_tmp(env:Env)(t:Nat):ev env (.tmp t)=zdJ env t:=zdo env t
theorem ev_const(env:Env)(v:Value):ev env (.const v)=cv v:=rfl
theorem ev_func(env:Env)(f:FuncId):ev env (.func f)=.fn f []:=rfl
theorem zxI(env:Env)(k:Nat):ev env (.global k)=(match GL k with|some cs=>.fp cs|none=>.any):=rfl
theorem cv_bool(b:Bool):cv (.bool b)=.bool b:=rfl
theorem cv_int(k:IntKind)(n:Int):cv (.int k n)=.int k n:=rfl
theorem cv_str(l:List UInt8):cv (.string ⟨l.toArray⟩)=.str l:=rfl
theorem cv_nilS:cv (.slice none 0 0)=.nilS:=rfl
theorem cv_nilP:cv (.pointer none)=.nilP:=rfl
theorem cv_nilM:cv (.map none)=.nilM:=rfl
theorem cv_nilF:cv .nilFunc=.nilF:=rfl
theorem cv_nilI:cv .nilIface=.nilI:=rfl
theorem cv_agg(cs:List Value):cv (.agg cs.toArray)=.agg (cs.map cv1):=rfl
theorem cv_tup(cs:List Value):cv (.tuple cs.toArray)=.tup (cs.map cv1):=rfl
theorem cv1_bool(b:Bool):cv1 (.bool b)=.bool b:=rfl
theorem cv1_int(k:IntKind)(n:Int):cv1 (.int k n)=.int k n:=rfl
theorem cv1_str(l:List UInt8):cv1 (.string ⟨l.toArray⟩)=.str l:=rfl
theorem cv1_nilS:cv1 (.slice none 0 0)=.nilS:=rfl
theorem cv1_nilP:cv1 (.pointer none)=.nilP:=rfl
theorem cv1_nilM:cv1 (.map none)=.nilM:=rfl
theorem cv1_nilF:cv1 .nilFunc=.nilF:=rfl
theorem cv1_nilI:cv1 .nilIface=.nilI:=rfl
theorem vc_bool(b:Bool):V.cond (.bool b)=True:=rfl
theorem vc_int(k:IntKind)(n:Int):V.cond (.int k n)=True:=rfl
theorem vc_str(l:List UInt8):V.cond (.str l)=True:=rfl
theorem vc_nilS:V.cond .nilS=True:=rfl
theorem vc_sl(b o l s:Nat)(k:Option Nat):V.cond (.sl b o l s k)=True:=rfl
theorem vc_fs(cs:List V)(n:Nat):V.cond (.fs cs n)=True:=rfl
theorem vc_nilP:V.cond .nilP=True:=rfl
theorem vc_ptr(b o:Nat):V.cond (.ptr b o)=True:=rfl
theorem vc_fp(cs:List V):V.cond (.fp cs)=True:=rfl
theorem vc_nilM:V.cond .nilM=True:=rfl
theorem vc_map(b:Nat):V.cond (.map b)=True:=rfl
theorem vc_fn(f:FuncId)(cs:List V):V.cond (.fn f cs)=True:=rfl
theorem vc_nilF:V.cond .nilF=True:=rfl
theorem vc_ifc(t:TypeId)(v:V):V.cond (.ifc t v)=True:=rfl
theorem vc_nilI:V.cond .nilI=True:=rfl
theorem vc_agg(cs:List V):V.cond (.agg cs)=True:=rfl
theorem vc_tup(cs:List V):V.cond (.tup cs)=True:=rfl
theorem vc_any:V.cond .any=True:=rfl
theorem vc_opt(b:Bool)(v:V):V.cond (.opt b v)=(b=true):=rfl
theorem vv_bool(b:Bool):V.val (.bool b)=.bool b:=rfl
theorem vv_int(k:IntKind)(n:Int):V.val (.int k n)=.int k n:=rfl
theorem vv_str(l:List UInt8):V.val (.str l)=.str l:=rfl
theorem vv_nilS:V.val .nilS=.nilS:=rfl
theorem vv_sl(b o l s:Nat)(k:Option Nat):V.val (.sl b o l s k)=.sl b o l s k:=rfl
theorem vv_fs(cs:List V)(n:Nat):V.val (.fs cs n)=.fs cs n:=rfl
theorem vv_nilP:V.val .nilP=.nilP:=rfl
theorem vv_ptr(b o:Nat):V.val (.ptr b o)=.ptr b o:=rfl
theorem vv_fp(cs:List V):V.val (.fp cs)=.fp cs:=rfl
theorem vv_nilM:V.val .nilM=.nilM:=rfl
theorem vv_map(b:Nat):V.val (.map b)=.map b:=rfl
theorem vv_fn(f:FuncId)(cs:List V):V.val (.fn f cs)=.fn f cs:=rfl
theorem vv_nilF:V.val .nilF=.nilF:=rfl
theorem vv_ifc(t:TypeId)(v:V):V.val (.ifc t v)=.ifc t v:=rfl
theorem vv_nilI:V.val .nilI=.nilI:=rfl
theorem vv_agg(cs:List V):V.val (.agg cs)=.agg cs:=rfl
theorem vv_tup(cs:List V):V.val (.tup cs)=.tup cs:=rfl
theorem vv_any:V.val .any=.any:=rfl
theorem vv_opt(b:Bool)(v:V):V.val (.opt b v)=v:=rfl
def delE(t:Nat)(env:Env):Env:=env.filter fun p=>p.1 != t
theorem delE_nil(t:Nat):delE t []=[]:=rfl
theorem zxX(t k:Nat)(v:V)(r:Env):delE t ((k,v)::r)=bif k==t then delE t r else(k,v)::delE t r:=by
 unfold delE;rw [List.filter_cons];by_cases h:k=t
 ·subst h;simp
 ·have h1:(k==t)=false:=by simp [h]
  have h2:(k != t)=true:=by simp [h]
  simp [h1];intro e;exact absurd e h
theorem zuS(keep:Nat→Bool):zcn keep []=[]:=rfl
theorem zrF(keep:Nat→Bool)(t:Nat)(v:V)(r:Env):zcn keep ((t,v)::r)=bif keep t then(t,v)::delE t (zcn keep r)else zcn keep r:=by rw [zcn];cases keep t<;>rfl
def zbn:List Nat→Nat→Bool
 |[],_=>false
 |k::r,t=>(t==k)||zbn r t
theorem zxc(t:Nat):zbn [] t=false:=rfl
theorem zsR(k:Nat)(r:List Nat)(t:Nat):zbn (k::r) t=((t==k)||zbn r t):=rfl
theorem trim_mk(keep:Nat→Bool)(env:Env)(h:Hp):St.trim ⟨env,h⟩ keep=⟨zcn keep env,h⟩:=rfl
def zaH:List (Nat×Blk)→Nat→Option Blk
 |[],_=>none
 |(k,x)::r,b=>bif b==k then some x else zaH r b
theorem zwO(b:Nat):zaH [] b=none:=rfl
theorem ziW(k:Nat)(x:Blk)(r:List (Nat×Blk))(b:Nat):zaH ((k,x)::r) b=bif b==k then some x else zaH r b:=rfl
theorem zcH:∀(bs:List (Nat×Blk)) (b:Nat),bs.lookup b=zaH bs b
 |[],_=>rfl
 |(k,v)::r,b=>by rw [List.lookup_cons,ziW, ←zcH r b];cases b==k<;>rfl
theorem zbj(bs:List (Nat×Blk))(n b:Nat):Hp.get ⟨bs,n⟩ b=zaH bs b:=zcH bs b
def putB:List (Nat×Blk)→Nat→Blk→List (Nat×Blk)
 |[],_,_=>[]
 |(k,y)::r,b,x=>(bif k==b then(k,x)else(k,y))::putB r b x
theorem putB_nil(b:Nat)(x:Blk):putB [] b x=[]:=rfl
theorem zlS(k:Nat)(y:Blk)(r:List (Nat×Blk))(b:Nat)(x:Blk):putB ((k,y)::r) b x=(bif k==b then(k,x)else(k,y))::putB r b x:=rfl
theorem zvZ:∀(bs:List (Nat×Blk)) (b:Nat) (x:Blk),(bs.map fun p=>if p.1==b then(p.1,x)else p)=putB bs b x
 |[],_,_=>rfl
 |(k,v)::r,b,x=>by rw [List.map_cons,zlS,zvZ r b x];cases h:k==b<;>simp_all
theorem put_mk(bs:List (Nat×Blk))(n b:Nat)(x:Blk):Hp.put ⟨bs,n⟩ b x=⟨putB bs b x,n⟩:=by rw [←zvZ];rfl
def zky:List (Nat×Blk)→Nat→List (Nat×Blk)
 |[],_=>[]
 |(k,y)::r,b=>bif k==b then zky r b else(k,y)::zky r b
theorem zw8(b:Nat):zky [] b=[]:=rfl
theorem zi0(k:Nat)(y:Blk)(r:List (Nat×Blk))(b:Nat):zky ((k,y)::r) b=bif k==b then zky r b else(k,y)::zky r b:=rfl
theorem zqq:∀(bs:List (Nat×Blk)) (b:Nat),(bs.filter fun p=>p.1 != b)=zky bs b
 |[],_=>rfl
 |(k,v)::r,b=>by rw [List.filter_cons,zi0, ←zqq r b];cases h:k==b<;>simp_all
theorem zw7(bs:List (Nat×Blk))(n b:Nat):Hp.kill ⟨bs,n⟩ b=⟨zky bs b,n⟩:=by rw [←zqq];rfl
theorem new_mk(bs:List (Nat×Blk))(n:Nat)(x:Blk):Hp.new ⟨bs,n⟩ x=⟨(n,x)::bs,n+1⟩:=rfl
inductive Fr where
 |seq (y:Code)
 |sem (y:Code)
 |block (id:Nat)
def unst(C:Cfg)(P:Program)(K:Out→St→Prop):List Fr→Out→St→Prop
 |[]=>K
 | .seq y::st=>zfo (fun s=>AXf C P y s (unst C P K st)) (unst C P K st)
 | .sem y::st=>zfo (fun s=>AX C P y s (unst C P K st)) (unst C P K st)
 | .block i::st=>zrk i (unst C P K st)
theorem zbS(K:Out→St→Prop)(v:V)(s:St):∀ st,unst C P K st (.panic v) s=K (.panic v) s
 |[]=>rfl
 | .seq _::st=>zbS K v s st
 | .sem _::st=>zbS K v s st
 | .block _::st=>zbS K v s st
def AXs(C:Cfg)(P:Program)(K:Out→St→Prop)(st:List Fr)(c:Code)(env:Env)(h:Hp):Prop:=AXf C P c ⟨env,h⟩ (unst C P K st)
def AXc(C:Cfg)(P:Program)(K:Out→St→Prop)(st:List Fr)(x y:Code)(b:V)(env:Env)(h:Hp):Prop:=
 match b with
 | .bool b=>if b=true then AXs C P K st x env h else AXs C P K st y env h
 |_=>False
def AXt(C:Cfg)(P:Program)(K:Out→St→Prop)(st:List Fr)(env:Env)(h:Hp):Prop:=AXs C P K st .skip env h
def AXr(C:Cfg)(P:Program)(K:Out→St→Prop)(st:List Fr)(ops:Array Oper)(os:List Oper)(env:Env)(h:Hp):Prop:=ARun C P ops os ⟨env,h⟩ (zbQ C.keep (unst C P K st))
def AXf1(C:Cfg)(P:Program)(K:Out→St→Prop)(st:List Fr)(ops:Array Oper)(os:List Oper)(d:Option Tmp)(r:SR)(env:Env)(h:Hp):Prop:=
 fol C r (fun v h' _=>ARun C P ops os (((⟨env,h⟩:St).put d v).hp h') (zbQ C.keep (unst C P K st))) (fun v=>zbQ C.keep (unst C P K st) (.panic v) ⟨env,h⟩)
def AXg1(C:Cfg)(P:Program)(K:Out→St→Prop)(st:List Fr)(ops:Array Oper)(os:List Oper)(d:Option Tmp)(gb:Option Bool)(r:SR)(env:Env)(h:Hp):Prop:=
 match gb with
 |some gb=>folG C gb r h (fun v h' _=>ARun C P ops os (((⟨env,h⟩:St).put d v).hp h') (zbQ C.keep (unst C P K st))) (fun v=>zbQ C.keep (unst C P K st) (.panic v) ⟨env,h⟩)
 |none=>False
def AXd(C:Cfg)(P:Program)(K:Out→St→Prop)(st:List Fr)(ops:Array Oper)(os:List Oper)(i:Nat)(acc:List (Nat×Foot))(env:Env)(h:Hp):Prop:=DRun C P ops os i ⟨env,h⟩ acc (zbQ C.keep (unst C P K st))
def AXf2(C:Cfg)(P:Program)(K:Out→St→Prop)(st:List Fr)(ops:Array Oper)(os:List Oper)(i:Nat)(d:Option Tmp)(r:SR)(acc:List (Nat×Foot))(env:Env)(h:Hp):Prop:=
 fol C r (fun v h' f=>DRun C P ops os (i+1) (((⟨env,h⟩:St).put d v).hp h') (accF acc i f) (zbQ C.keep (unst C P K st))) (fun v=>zdT ops i=true∧chk ops acc=true∧zbQ C.keep (unst C P K st) (.panic v) ⟨env,h⟩)
def AXg2(C:Cfg)(P:Program)(K:Out→St→Prop)(st:List Fr)(ops:Array Oper)(os:List Oper)(i:Nat)(d:Option Tmp)(gb:Option Bool)(r:SR)(acc:List (Nat×Foot))(env:Env)(h:Hp):Prop:=
 match gb with
 |some gb=>folG C gb r h (fun v h' f=>DRun C P ops os (i+1) (((⟨env,h⟩:St).put d v).hp h') (accF acc i f) (zbQ C.keep (unst C P K st))) (fun v=>zdT ops i=true∧chk ops acc=true∧zbQ C.keep (unst C P K st) (.panic v) ⟨env,h⟩)
 |none=>False
def AXk(C:Cfg)(P:Program)(K:Out→St→Prop)(st:List Fr)(ops:Array Oper)(acc:List (Nat×Foot))(env:Env)(h:Hp):Prop:=chk ops acc=true∧AXt C P K st (zcn C.keep env) h
variable {K:Out→St→Prop}{st:List Fr}{ops:Array Oper}{os:List Oper}{env:Env}{h:Hp}
@[congr] theorem AXs_congr {c:Code}{env':Env}{h':Hp}(e:env=env')(e':h=h'):AXs C P K st c env h=AXs C P K st c env' h':=by rw [e,e']
@[congr] theorem AXc_congr {x y:Code}{b b':V}{env':Env}{h':Hp}(eb:b=b')(e:env=env')(e':h=h'):AXc C P K st x y b env h=AXc C P K st x y b' env' h':=by rw [eb,e,e']
@[congr] theorem AXt_congr {env':Env}{h':Hp}(e:env=env')(e':h=h'):AXt C P K st env h=AXt C P K st env' h':=by rw [e,e']
@[congr] theorem AXf1_congr {d:Option Tmp}{r r':SR}(e:r=r'):AXf1 C P K st ops os d r env h=AXf1 C P K st ops os d r' env h:=by rw [e]
@[congr] theorem AXg1_congr {d:Option Tmp}{gb gb':Option Bool}{r r':SR}(eb:gb=gb')(e:r=r'):AXg1 C P K st ops os d gb r env h=AXg1 C P K st ops os d gb' r' env h:=by rw [e,eb]
@[congr] theorem AXf2_congr {i:Nat}{d:Option Tmp}{r r':SR}{acc:List (Nat×Foot)}(e:r=r'):AXf2 C P K st ops os i d r acc env h=AXf2 C P K st ops os i d r' acc env h:=by rw [e]
@[congr] theorem AXg2_congr {i:Nat}{d:Option Tmp}{gb gb':Option Bool}{r r':SR}{acc:List (Nat×Foot)}(eb:gb=gb')(e:r=r'):AXg2 C P K st ops os i d gb r acc env h=AXg2 C P K st ops os i d gb' r' acc env h:=by rw [e,eb]
@[congr] theorem AXk_congr {acc acc':List (Nat×Foot)}(ea:acc=acc'):AXk C P K st ops acc env h=AXk C P K st ops acc' env h:=by rw [ea]
theorem AXs.of {c:Code}{s:St}(h:AXs C P K [] c s.env s.h):AXf C P c s K:=h
def AXp(C:Cfg)(P:Program)(K:Out→St→Prop)(st:List Fr)(x y:Code)(b:Bool)(env:Env)(h:Hp):Prop:=AXs C P K ((if b=true then .sem y else .seq y)::st) x env h
theorem axs_seq(x y:Code):AXs C P K st (.seq x y) env h=AXp C P K st x y (zbp x) env h:=by unfold AXp AXs;rw [AXf];cases zbp x<;>rfl
theorem zzX(x y:Code):AXp C P K st x y false env h=AXs C P K (.seq y::st) x env h:=rfl
theorem axp_true(x y:Code):AXp C P K st x y true env h=AXs C P K (.sem y::st) x env h:=rfl
theorem zoz(x:Code):zbp (.loop x)=true:=rfl
theorem zmj(i:Nat)(x:Code):zbp (.block i x)=zbp x:=rfl
theorem zsU(x y:Code):zbp (.seq x y)=zbp y:=rfl
theorem zoB(c:Operand)(x y:Code):zbp (.cond c x y)=(zbp x||zbp y):=rfl
theorem zkC(i:Nat)(o:Array Oper)(d:Bool):zbp (.region i o d)=false:=rfl
theorem zoy:zbp .skip=false:=rfl
theorem zsV:zbp .ret=false:=rfl
theorem zoA(i:Nat):zbp (.exit i)=false:=rfl
def AXa(C:Cfg)(P:Program)(K:Out→St→Prop)(st:List Fr)(y:Code)(env:Env)(h:Hp):Prop:=AX C P y ⟨env,h⟩ (unst C P K st)
theorem znl(y:Code):AXs C P K (.sem y::st) .skip env h=AXa C P K st y env h:=rfl
theorem zno(i:Nat)(y:Code):AXs C P K (.sem y::st) (.exit i) env h=AXs C P K st (.exit i) env h:=rfl
theorem zpo(y:Code):AXs C P K (.sem y::st) .ret env h=AXs C P K st .ret env h:=rfl
theorem AXa.go {y:Code}(hm:P.follows .mixedOrders=true)(hΓ:∀ f args r,C.Γ f args=some r→PCall P f args r)(hΔ:∀ f args H r,C.Δ f args H=some r→HCall P f args H r)(hok:zar C.nt y=true)(hx:AXs C P K st y env h):AXa C P K st y env h:=
 zcA hm ⟨hΓ,hΔ⟩ y _ _ hok hx
theorem AXa.sub {y:Code}{env':Env}{h':Hp}(hs:Sub C ⟨env,h⟩ ⟨env',h'⟩)(hx:AXa C P K st y env' h'):AXa C P K st y env h:=AX.sub hs hx
theorem AXa.freeze {y:Code}{env':Env}{h':Hp}{F:Nat→Prop}(hW:C.Wm=[])(hs:Fz C.nx F ⟨env,h⟩ ⟨env',h'⟩)(hx:AXa C P K st y env' h'):AXa C P K st y env h:=AX.freeze hW hs hx
theorem zzV(i:Nat)(x:Code):AXs C P K st (.block i x) env h=AXs C P K (.block i::st) x env h:=rfl
theorem znk(y:Code):AXs C P K (.seq y::st) .skip env h=AXs C P K st y env h:=rfl
theorem zit(i:Nat):AXs C P K (.block i::st) .skip env h=AXs C P K st .skip env h:=rfl
theorem znm:AXs C P K [] .skip env h=K .norm ⟨env,h⟩:=rfl
theorem znn(i:Nat)(y:Code):AXs C P K (.seq y::st) (.exit i) env h=AXs C P K st (.exit i) env h:=rfl
theorem ziu(i j:Nat):AXs C P K (.block j::st) (.exit i) env h=if i=j then AXs C P K st .skip env h else AXs C P K st (.exit i) env h:=rfl
theorem znp(i:Nat):AXs C P K [] (.exit i) env h=K (.exit i) ⟨env,h⟩:=rfl
theorem zpn(y:Code):AXs C P K (.seq y::st) .ret env h=AXs C P K st .ret env h:=rfl
theorem zk7(i:Nat):AXs C P K (.block i::st) .ret env h=AXs C P K st .ret env h:=rfl
theorem zpp:AXs C P K [] .ret env h=K .ret ⟨env,h⟩:=rfl
theorem axs_cond(c:Operand)(x y:Code):AXs C P K st (.cond c x y) env h=AXc C P K st x y (ev env c) env h:=by unfold AXs AXc AXf;rfl
def AXm(C:Cfg)(P:Program)(K:Out→St→Prop)(st:List Fr)(os:List Oper)(n:Option (Option Tmp×Operand×List Oper))(env:Env)(h:Hp):Prop:=ARunN C P ⟨os⟩ n ⟨env,h⟩ (zbQ C.keep (unst C P K st))
def AXw(C:Cfg)(P:Program)(K:Out→St→Prop)(st:List Fr)(ops:Array Oper)(os:List Oper)(d:Option Tmp)(c:Prop)(x:V)(env:Env)(h:Hp):Prop:=ANext C P ops os d c (zjs x h) ⟨env,h⟩ (zbQ C.keep (unst C P K st))
def AXl(C:Cfg)(P:Program)(K:Out→St→Prop)(st:List Fr)(os:List Oper)(n:Option (Nat×Op×Nat))(env:Env)(h:Hp):Prop:=DRunN C P ⟨os⟩ n ⟨env,h⟩ (zbQ C.keep (unst C P K st))
def AXe(C:Cfg)(P:Program)(K:Out→St→Prop)(st:List Fr)(ops:Array Oper)(i0:Nat)(op0:Op)(j0:Nat)(os:List Oper)(i:Nat)(acc:List (Nat×Foot))(r:Option LK)(env:Env)(h:Hp):Prop:=
 zAO C P ops i0 op0 j0 os i ⟨env,h⟩ acc r (zbQ C.keep (unst C P K st))
def lateA(b:Bool)(W:List Nat)(h' h:Hp):Prop:=match b with|true=>W=[]∧h'=h|false=>True
def lateB1(b:Bool)(C:Cfg)(P:Program)(op0:Op)(r:Option LK)(h:Hp)(f:Foot):Prop:=match b with|true=>(match r with|some r=>zrl C P op0 r h f|none=>False)|false=>True
def lateR(b:Bool)(env:Env)(h:Hp)(v:V)(f:Foot)(r:Option LK):Option LK:=match b with|true=>some ⟨⟨env,h⟩,v,f⟩|false=>r
theorem axs_run(i:Nat)(os:List Oper):AXs C P K st (.region i ⟨os⟩ false) env h=AXm C P K st os (ze3 os) env h:=rfl
theorem axs_draw(i:Nat)(os:List Oper):AXs C P K st (.region i ⟨os⟩ true) env h=AXl C P K st os (ze6 os) env h:=rfl
theorem axm_none:AXm C P K st os none env h=AXr C P K st ⟨os⟩ os env h:=rfl
theorem axm_some(d:Option Tmp)(it:Operand)(r:List Oper):AXm C P K st os (some (d,it,r)) env h=AXw C P K st ⟨os⟩ r d (ev env it).cond (rho env it) env h:=rfl
theorem axl_none:AXl C P K st os none env h=AXd C P K st ⟨os⟩ os 0 [] env h:=rfl
theorem axl_some(i0:Nat)(op0:Op)(j0:Nat):AXl C P K st os (some (i0,op0,j0)) env h=AXe C P K st ⟨os⟩ i0 op0 j0 os 0 [] none env h:=rfl
theorem zsp:ze3 []=none:=rfl
def zN:Op→Bool
 | .next _ _=>false
 |_=>true
def nextX:=@ze3
theorem zso(dst:Option Tmp)(it:Operand)(type:TypeId)(pos:String)(after:Array Edge)(r:List Oper):nextX ({ dst,op:=.next it false,type,pos,after,guard:=none }::r)=some (dst,it,r):=rfl
theorem zlZ(a b):zN (.next a b)=false:=rfl
theorem zoj(dst:Option Tmp)(op:Op)(type:TypeId)(pos:String)(after:Array Edge)(g:Option (Nat×Bool))(r:List Oper):ze3 ({ dst,op,type,pos,after,guard:=g }::r)=bif zN op then none else nextX ({ dst,op,type,pos,after,guard:=g }::r):=by
 cases h:zN op with
 |false=>rfl
 |true=>
  unfold ze3;cases op<;>first|rfl|cases h
theorem zxm(a):isEn (.move a)=false:=rfl
theorem zxh(a):isLk (.move a)=false:=rfl
theorem zl0(a):zN (.move a)=true:=rfl
theorem zoH(a):isEn (.assign a)=false:=rfl
theorem zoE(a):isLk (.assign a)=false:=rfl
theorem zia(a):zN (.assign a)=true:=rfl
theorem zxl(a)(b)(c):isEn (.pick a b c)=false:=rfl
theorem zxg(a)(b)(c):isLk (.pick a b c)=false:=rfl
theorem zlY(a)(b)(c):zN (.pick a b c)=true:=rfl
theorem ztm(a):isEn (.alloc a)=false:=rfl
theorem zta(a):isLk (.alloc a)=false:=rfl
theorem zkr(a):zN (.alloc a)=true:=rfl
theorem isEn_box(a)(b):isEn (.box a b)=false:=rfl
theorem isLk_box(a)(b):isLk (.box a b)=false:=rfl
theorem zoh(a)(b):zN (.box a b)=true:=rfl
theorem ztk(a)(b):isEn (.build a b)=false:=rfl
theorem zs8(a)(b):isLk (.build a b)=false:=rfl
theorem zkp(a)(b):zN (.build a b)=true:=rfl
theorem zhv(a)(b)(c):isEn (.buildSlice a b c)=false:=rfl
theorem zhs(a)(b)(c):isLk (.buildSlice a b c)=false:=rfl
theorem ze2(a)(b)(c):zN (.buildSlice a b c)=true:=rfl
theorem zoG(a)(b)(c)(d):isEn (.insert a b c d)=false:=rfl
theorem zoD(a)(b)(c)(d):isLk (.insert a b c d)=false:=rfl
theorem zh9(a)(b)(c)(d):zN (.insert a b c d)=true:=rfl
theorem zxn(a)(b):isEn (.load a b)=false:=rfl
theorem zxi(a)(b):isLk (.load a b)=false:=rfl
theorem zl1(a)(b):zN (.load a b)=true:=rfl
theorem ztc(a)(b)(c):isEn (.store a b c)=false:=rfl
theorem zsX(a)(b)(c):isLk (.store a b c)=false:=rfl
theorem zkh(a)(b)(c):zN (.store a b c)=true:=rfl
theorem zte(a):isEn (.ready a)=false:=rfl
theorem zsZ(a):isLk (.ready a)=false:=rfl
theorem zkj(a):zN (.ready a)=true:=rfl
theorem ztb(a):isEn (.waits a)=false:=rfl
theorem zsW(a):isLk (.waits a)=false:=rfl
theorem zkg(a):zN (.waits a)=true:=rfl
theorem zkH(a):isEn (.nilCheck a)=false:=rfl
theorem zkD(a):isLk (.nilCheck a)=false:=rfl
theorem zgd(a):zN (.nilCheck a)=true:=rfl
theorem ztl(a)(b)(c)(d)(e):isEn (.binOp a b c d e)=false:=rfl
theorem zs9(a)(b)(c)(d)(e):isLk (.binOp a b c d e)=false:=rfl
theorem zkq(a)(b)(c)(d)(e):zN (.binOp a b c d e)=true:=rfl
theorem zxk(a)(b)(c):isEn (.unOp a b c)=false:=rfl
theorem zxf(a)(b)(c):isLk (.unOp a b c)=false:=rfl
theorem zlX(a)(b)(c):zN (.unOp a b c)=true:=rfl
theorem zmr(a)(b)(c):isEn (.convert a b c)=false:=rfl
theorem zmn(a)(b)(c):isLk (.convert a b c)=false:=rfl
theorem zhg(a)(b)(c):zN (.convert a b c)=true:=rfl
theorem zc3(a)(b):isEn (.sliceToArrayPointer a b)=false:=rfl
theorem zc2(a)(b):isLk (.sliceToArrayPointer a b)=false:=rfl
theorem zcr(a)(b):zN (.sliceToArrayPointer a b)=true:=rfl
theorem zfa(a)(b):isEn (.makeInterface a b)=false:=rfl
theorem ze9(a)(b):isLk (.makeInterface a b)=false:=rfl
theorem zdU(a)(b):zN (.makeInterface a b)=true:=rfl
theorem zkJ(a)(b)(c):isEn (.makeFunc a b c)=false:=rfl
theorem zkF(a)(b)(c):isLk (.makeFunc a b c)=false:=rfl
theorem zgf(a)(b)(c):zN (.makeFunc a b c)=true:=rfl
theorem zmp(a)(b):isEn (.makeMap a b)=false:=rfl
theorem zmk(a)(b):isLk (.makeMap a b)=false:=rfl
theorem zhe(a)(b):zN (.makeMap a b)=true:=rfl
theorem zkK(a)(b):isEn (.makeChan a b)=false:=rfl
theorem zkG(a)(b):isLk (.makeChan a b)=false:=rfl
theorem zgg(a)(b):zN (.makeChan a b)=true:=rfl
theorem zil(a)(b)(c):isEn (.makeSlice a b c)=false:=rfl
theorem zih(a)(b)(c):isLk (.makeSlice a b c)=false:=rfl
theorem zfF(a)(b)(c):zN (.makeSlice a b c)=true:=rfl
theorem ztd(a)(b)(c)(d)(e):isEn (.slice a b c d e)=false:=rfl
theorem zsY(a)(b)(c)(d)(e):isLk (.slice a b c d e)=false:=rfl
theorem zki(a)(b)(c)(d)(e):zN (.slice a b c d e)=true:=rfl
theorem zin(a)(b)(c):isEn (.fieldAddr a b c)=false:=rfl
theorem zij(a)(b)(c):isLk (.fieldAddr a b c)=false:=rfl
theorem zfH(a)(b)(c):zN (.fieldAddr a b c)=true:=rfl
theorem zti(a)(b)(c):isEn (.field a b c)=false:=rfl
theorem zs6(a)(b)(c):isLk (.field a b c)=false:=rfl
theorem zkn(a)(b)(c):zN (.field a b c)=true:=rfl
theorem zim(a)(b)(c):isEn (.indexAddr a b c)=false:=rfl
theorem zii(a)(b)(c):isLk (.indexAddr a b c)=false:=rfl
theorem zfG(a)(b)(c):zN (.indexAddr a b c)=true:=rfl
theorem zth(a)(b)(c):isEn (.index a b c)=false:=rfl
theorem zs5(a)(b)(c):isLk (.index a b c)=false:=rfl
theorem zkm(a)(b)(c):zN (.index a b c)=true:=rfl
theorem zik(a)(b)(c)(d):isEn (.mapUpdate a b c d)=false:=rfl
theorem zif(a)(b)(c)(d):isLk (.mapUpdate a b c d)=false:=rfl
theorem zfE(a)(b)(c)(d):zN (.mapUpdate a b c d)=true:=rfl
theorem zkI(a)(b)(c):isEn (.mapEntry a b c)=true:=rfl
theorem zkE(a)(b)(c):isLk (.mapEntry a b c)=false:=rfl
theorem zge(a)(b)(c):zN (.mapEntry a b c)=true:=rfl
theorem zhu(a)(b)(c)(d):isEn (.entryStore a b c d)=false:=rfl
theorem zhr(a)(b)(c)(d):isLk (.entryStore a b c d)=false:=rfl
theorem ze1(a)(b)(c)(d):zN (.entryStore a b c d)=true:=rfl
theorem ztf(a)(b):isEn (.range a b)=false:=rfl
theorem zs3(a)(b):isLk (.range a b)=false:=rfl
theorem zkk(a)(b):zN (.range a b)=true:=rfl
theorem ztj(a):isEn (.entry a)=false:=rfl
theorem zs7(a):isLk (.entry a)=false:=rfl
theorem zko(a):zN (.entry a)=true:=rfl
theorem zht(a)(b)(c)(d):isEn (.typeAssert a b c d)=false:=rfl
theorem zhq(a)(b)(c)(d):isLk (.typeAssert a b c d)=false:=rfl
theorem ze0(a)(b)(c)(d):zN (.typeAssert a b c d)=true:=rfl
theorem zmq(a)(b):isEn (.extract a b)=false:=rfl
theorem zmm(a)(b):isLk (.extract a b)=false:=rfl
theorem zhf(a)(b):zN (.extract a b)=true:=rfl
theorem zxo(a):isEn (.call a)=false:=rfl
theorem zxj(a):isLk (.call a)=false:=rfl
theorem zl2(a):zN (.call a)=true:=rfl
theorem ztg(a):isEn (.panic a)=false:=rfl
theorem zs4(a):isLk (.panic a)=false:=rfl
theorem zkl(a):zN (.panic a)=true:=rfl
theorem zoF(a b c d):isEn (.lookup a b c d)=false:=rfl
theorem zoC(a b c):isLk (.lookup a b c false)=true:=rfl
theorem zml(a b c):isLk (.lookup a b c true)=false:=rfl
theorem zh8(a b c d):zN (.lookup a b c d)=true:=rfl
theorem zot(os:List Oper):ze6 os=match zid os 0 with|none=>none|some j=>zie os 0 none j:=rfl
theorem zw3(j:Nat):zid [] j=none:=rfl
theorem zsN(dst:Option Tmp)(op:Op)(type:TypeId)(pos:String)(after:Array Edge)(g:Option (Nat×Bool))(r:List Oper)(j:Nat):zid ({ dst,op,type,pos,after,guard:=g }::r) j=bif isEn op then some j else zid r (j+1):=by
 show (match isEn op with|true=>_|false=>_)=_;cases isEn op<;>rfl
theorem zw5(i:Nat)(x:Option Op)(j:Nat):zie [] i x j=none:=rfl
theorem zrh(x y:Code):AXc C P K st x y (.bool true) env h=AXs C P K st x env h:=by simp [AXc]
theorem znq(x y:Code):AXc C P K st x y (.bool false) env h=AXs C P K st y env h:=by simp [AXc]
theorem AXc.intro {x y:Code}{b:Bool}(h1:b=true→AXs C P K st x env h)(h2:b=false→AXs C P K st y env h):AXc C P K st x y (.bool b) env h:=by
 cases b with
 |true=>rw [zrh];exact h1 rfl
 |false=>rw [znq];exact h2 rfl
theorem axt_eq:AXt C P K st env h=AXs C P K st .skip env h:=rfl
theorem axr_nil:AXr C P K st ops [] env h=AXt C P K st (zcn C.keep env) h:=rfl
theorem axr_cons(dst:Option Tmp)(op:Op)(type:TypeId)(pos:String)(after:Array Edge):
 AXr C P K st ops ({ dst,op,type,pos,after,guard:=none }::os) env h=AXf1 C P K st ops os dst (step1 C P env op h) env h:=rfl
theorem zz4(d:Tmp)(b:Bool)(pre:Prop)(v:V)(h':Hp)(R W:List Nat)(lo hi:Nat):AXf1 C P K st ops os (some d) (.ok b pre v h' ⟨R,W,lo,hi⟩) env h=(pre∧wok C W=true∧AXr C P K st ops os ((d,v)::env) h'):=rfl
theorem zz5(b:Bool)(pre:Prop)(v:V)(h':Hp)(R W:List Nat)(lo hi:Nat):AXf1 C P K st ops os none (.ok b pre v h' ⟨R,W,lo,hi⟩) env h=(pre∧wok C W=true∧AXr C P K st ops os env h'):=rfl
theorem axf1_pan(d:Option Tmp)(pre:Prop)(v:V)(R:List Nat):AXf1 C P K st ops os d (.pan pre v R) env h=(pre∧K (.panic v) ⟨env,h⟩):=by show (pre∧unst C P K st (.panic v) _)=_;rw [zbS]
def getO:List Oper→Nat→Option Tmp
 |[],_=>none
 |o::r,i=>bif i==0 then o.dst else getO r (i - 1)
theorem zmx(o:Oper)(r:List Oper)(i:Nat):getO (o::r) i=bif i==0 then o.dst else getO r (i - 1):=rfl
theorem zxu:∀(os:List Oper) (i:Nat),(os[i]?).bind (·.dst)=getO os i
 |[],_=>rfl
 |o::r,0=>rfl
 |o::r,i+1=>by rw [List.getElem?_cons_succ,zxu r i,zmx];rfl
def zfX(v:V)(want:Bool):Option Bool:=
 match v with
 | .bool b=>some (b==want)
 | .opt c (.bool b)=>some (c&&(b==want))
 | .opt false _=>some false
 | .tup []=>some false
 |_=>none
theorem guardV_t(b:Bool):zfX (.bool b) true=some b:=by cases b<;>rfl
theorem guardV_f(b:Bool):zfX (.bool b) false=some (!b):=by cases b<;>rfl
theorem zxs(c b:Bool):zfX (.opt c (.bool b)) true=some (c&&b):=by cases b<;>rfl
theorem zxt(c b:Bool):zfX (.opt c (.bool b)) false=some (c&& !b):=by cases b<;>rfl
def zmw(o:Option Tmp)(env:Env)(want:Bool):Option Bool:=
 match o with
 |some d=>zfX (zdJ env d) want
 |none=>none
theorem zoL(d:Tmp)(env:Env)(want:Bool):zmw (some d) env want=zfX (zdJ env d) want:=rfl
theorem zxr(os:List Oper)(env:Env)(o:Oper)(j:Nat)(want:Bool)(hg:o.guard=some (j,want)):gval ⟨os⟩ env o=zmw (getO os j) env want:=by
 unfold gval;rw [hg];have e:((⟨os⟩:Array Oper)[j]?).bind (·.dst)=getO os j:=by rw [←zxu];simp
 simp only [e];unfold zmw;cases hd:getO os j with
 |none=>rfl
 |some d=>
  simp only [];rw [←zdo];cases env.lookup d with
  |none=>rfl
  |some v=>
   cases v with
   |opt c v=>cases v<;>cases c<;>rfl
   |tup l=>cases l<;>rfl
   |_=>rfl
theorem zzW(os0:List Oper)(dst:Option Tmp)(op:Op)(type:TypeId)(pos:String)(after:Array Edge)(j:Nat)(want:Bool):
 AXr C P K st ⟨os0⟩ ({ dst,op,type,pos,after,guard:=some (j,want) }::os) env h=AXg1 C P K st ⟨os0⟩ os dst (zmw (getO os0 j) env want) (step1 C P env op h) env h:=by
 rw [←zxr os0 env { dst,op,type,pos,after,guard:=some (j,want) } j want rfl]
 unfold AXr AXg1
 rfl
theorem zzZ(d:Tmp)(gb:Bool)(pre:Prop)(v:V)(h':Hp)(R W:List Nat)(lo hi:Nat):AXg1 C P K st ops os (some d) (some gb) (.ok true pre v h' ⟨R,W,lo,hi⟩) env h=((gb=true→pre)∧AXr C P K st ops os ((d,.opt gb v)::env) h):=rfl
theorem zz0(gb:Bool)(pre:Prop)(v:V)(h':Hp)(R W:List Nat)(lo hi:Nat):AXg1 C P K st ops os none (some gb) (.ok true pre v h' ⟨R,W,lo,hi⟩) env h=((gb=true→pre)∧AXr C P K st ops os env h):=rfl
theorem AXg1.pan {d:Tmp}{gb:Bool}{pre:Prop}{v:V}{R:List Nat}(h1:gb=true→pre∧K (.panic v) ⟨env,h⟩)(h2:gb=false→AXr C P K st ops os ((d,undefV)::env) h):AXg1 C P K st ops os (some d) (some gb) (.pan pre v R) env h:=by
 show (if gb=true then(pre∧unst C P K st (.panic v) _)else _);cases gb with
 |true=>rw [if_pos rfl,zbS];exact h1 rfl
 |false=>rw [if_neg (by simp)];exact h2 rfl
theorem axd_nil(i:Nat)(acc:List (Nat×Foot)):AXd C P K st ops [] i acc env h=AXk C P K st ops acc env h:=rfl
theorem axd_cons(dst:Option Tmp)(op:Op)(type:TypeId)(pos:String)(after:Array Edge)(i:Nat)(acc:List (Nat×Foot)):
 AXd C P K st ops ({ dst,op,type,pos,after,guard:=none }::os) i acc env h=AXf2 C P K st ops os i dst (step1 C P env op h) acc env h:=rfl
theorem zz6(os0:List Oper)(dst:Option Tmp)(op:Op)(type:TypeId)(pos:String)(after:Array Edge)(j:Nat)(want:Bool)(i:Nat)(acc:List (Nat×Foot)):
 AXd C P K st ⟨os0⟩ ({ dst,op,type,pos,after,guard:=some (j,want) }::os) i acc env h=AXg2 C P K st ⟨os0⟩ os i dst (zmw (getO os0 j) env want) (step1 C P env op h) acc env h:=by
 rw [←zxr os0 env { dst,op,type,pos,after,guard:=some (j,want) } j want rfl]
 unfold AXd AXg2
 rfl
def accM(acc:List (Nat×Foot))(i:Nat)(R W:List Nat)(lo hi:Nat):List (Nat×Foot):=bif R.isEmpty&&W.isEmpty&&lo==hi then acc else(i,⟨R,W,lo,hi⟩)::acc
theorem zpt(acc:List (Nat×Foot))(i:Nat)(R W:List Nat)(lo hi:Nat):accF acc i ⟨R,W,lo,hi⟩=accM acc i R W lo hi:=by unfold accF Foot.idle accM;cases (R.isEmpty&&W.isEmpty&&lo==hi)<;>rfl
theorem zAh(acc:List (Nat×Foot))(i lo hi:Nat):accM acc i [] [] lo hi=bif lo==hi then acc else(i,⟨[],[],lo,hi⟩)::acc:=rfl
theorem accM_r(acc:List (Nat×Foot))(i b:Nat)(R W:List Nat)(lo hi:Nat):accM acc i (b::R) W lo hi=(i,⟨b::R,W,lo,hi⟩)::acc:=rfl
theorem accM_w(acc:List (Nat×Foot))(i b:Nat)(W:List Nat)(lo hi:Nat):accM acc i [] (b::W) lo hi=(i,⟨[],b::W,lo,hi⟩)::acc:=rfl
theorem zz2(i:Nat)(d:Tmp)(b:Bool)(pre:Prop)(v:V)(h':Hp)(R W:List Nat)(lo hi:Nat)(acc:List (Nat×Foot)):AXf2 C P K st ops os i (some d) (.ok b pre v h' ⟨R,W,lo,hi⟩) acc env h=
 (pre∧wok C W=true∧AXd C P K st ops os (i+1) (accM acc i R W lo hi) ((d,v)::env) h'):=by rw [←zpt];rfl
theorem zz3(i:Nat)(b:Bool)(pre:Prop)(v:V)(h':Hp)(R W:List Nat)(lo hi:Nat)(acc:List (Nat×Foot)):AXf2 C P K st ops os i none (.ok b pre v h' ⟨R,W,lo,hi⟩) acc env h=
 (pre∧wok C W=true∧AXd C P K st ops os (i+1) (accM acc i R W lo hi) env h'):=by rw [←zpt];rfl
theorem axe_nil(i0:Nat)(op0:Op)(j0:Nat)(i:Nat)(acc:List (Nat×Foot))(l:Option LK):AXe C P K st ops i0 op0 j0 [] i acc l env h=(chkX ops i0 j0 acc=true∧AXt C P K st (zcn C.keep env) h):=rfl
theorem lateA_f(W:List Nat)(h' h:Hp):lateA false W h' h=True:=rfl
theorem lateA_t(W:List Nat)(h' h:Hp):lateA true W h' h=(W=[]∧h'=h):=rfl
theorem lateB_f(op0:Op)(r:Option LK)(h:Hp)(f:Foot):lateB1 false C P op0 r h f=True:=rfl
theorem lateR_f(env:Env)(h:Hp)(v:V)(f:Foot)(r:Option LK):lateR false env h v f r=r:=rfl
theorem lateR_t(env:Env)(h:Hp)(v:V)(f:Foot)(r:Option LK):lateR true env h v f r=some ⟨⟨env,h⟩,v,f⟩:=rfl
theorem lateK_ok(b:Bool)(pre:Prop)(v v':V)(h h':Hp)(f f':Foot):LateK (.ok b pre v' h' f') h v f=(pre∧v'=v∧h'=h∧f'=f):=rfl
theorem axf2_pan(i:Nat)(d:Option Tmp)(pre:Prop)(v:V)(R:List Nat)(acc:List (Nat×Foot)):AXf2 C P K st ops os i d (.pan pre v R) acc env h=(pre∧zdT ops i=true∧chk ops acc=true∧K (.panic v) ⟨env,h⟩):=by show (pre∧zdT ops i=true∧chk ops acc=true∧unst C P K st (.panic v) _)=_;rw [zbS]
theorem zzY(i:Nat)(d:Tmp)(gb:Bool)(pre:Prop)(v:V)(h':Hp)(R W:List Nat)(lo hi:Nat)(acc:List (Nat×Foot)):AXg2 C P K st ops os i (some d) (some gb) (.ok true pre v h' ⟨R,W,lo,hi⟩) acc env h=
 ((gb=true→pre)∧AXd C P K st ops os (i+1) (accM acc i R [] 0 0) ((d,.opt gb v)::env) h):=by rw [←zpt];rfl
theorem AXg2.pan {i:Nat}{d:Tmp}{gb:Bool}{pre:Prop}{v:V}{R:List Nat}{acc:List (Nat×Foot)}(h1:gb=true→pre∧zdT ops i=true∧chk ops acc=true∧K (.panic v) ⟨env,h⟩)
 (h2:gb=false→AXd C P K st ops os (i+1) (accF acc i ⟨[],[],0,0⟩) ((d,undefV)::env) h):AXg2 C P K st ops os i (some d) (some gb) (.pan pre v R) acc env h:=by
 show (if gb=true then(pre∧zdT ops i=true∧chk ops acc=true∧unst C P K st (.panic v) _)else _)
 cases gb with
 |true=>rw [if_pos rfl,zbS];exact h1 rfl
 |false=>rw [if_neg (by simp)];exact h2 rfl
theorem axk_nil:AXk C P K st ops [] env h=AXt C P K st (zcn C.keep env) h:=by show (chk ops []=true∧_)=_;simp [chk]
theorem AXk.intro {acc:List (Nat×Foot)}(h1:chk ops acc=true)(h2:AXt C P K st (zcn C.keep env) h):AXk C P K st ops acc env h:=⟨h1,h2⟩
def zpS:List (Nat×Foot)→Bool
 |[]=>true
 |(_,f)::r=>f.still&&zpS r
theorem zrK:zpS []=true:=rfl
theorem znG(i:Nat)(R W:List Nat)(lo hi:Nat)(r:List (Nat×Foot)):zpS ((i,⟨R,W,lo,hi⟩)::r)=(W.isEmpty&&lo==hi&&zpS r):=rfl
theorem wok_nil:wok C []=true:=rfl
theorem wok_cons(b:Nat)(W:List Nat):wok C (b::W)=((decide (C.nx≤b)||C.Wm.contains b)&&wok C W):=rfl
def mkSR(st:Bool)(c:Prop)(r:AR)(H:Hp):SR:=.ok st (c∧r.pre) r.v r.h ⟨r.R,r.W,H.next,r.h.next⟩
@[congr] theorem mkSR_congr {st:Bool}{c c':Prop}{r r':AR}{H:Hp}(hc:c=c')(hr:r=r'):mkSR st c r H=mkSR st c' r' H:=by rw [hc,hr]
theorem mkSR_mk(st:Bool)(c p:Prop)(v:V)(h:Hp)(R W:List Nat)(H:Hp):mkSR st c ⟨p,v,h,R,W⟩ H=.ok st (c∧p) v h ⟨R,W,H.next,h.next⟩:=rfl
theorem next_mk(bs:List (Nat×Blk))(n:Nat):Hp.next ⟨bs,n⟩=n:=rfl
theorem zab {op:Op}{env:Env}{H:Hp}{c:Prop}{r:AR}(h1:step1 C P env op H=.ok (zeq op) (needs (op.operands.toList.map (ev env))∧(aop P (rho env) op H).pre) (aop P (rho env) op H).v (aop P (rho env) op H).h
 ⟨(aop P (rho env) op H).R,(aop P (rho env) op H).W,H.next,(aop P (rho env) op H).h.next⟩) (h2:needs (op.operands.toList.map (ev env))↔c) (h3:aop P (rho env) op H=r):step1 C P env op H=mkSR (zeq op) c r H:=by
 rw [h1,h3,propext h2];rfl
theorem zsr(v:V)(r:List V):needs (v::r)=(v.cond∧needs r):=rfl
variable {H:Hp}
theorem zrN(x:Operand):step1 C P env (.move x) H=mkSR true (ev env x).cond (.val H (ev env x).val) H:=zab rfl (by simp [Op.operands,needs]) rfl
theorem zlx(x:Operand):step1 C P env (.assign x) H=mkSR true (ev env x).cond (.val H (ev env x).val) H:=zab rfl (by simp [Op.operands,needs]) rfl
theorem zrM(c a b:Operand):step1 C P env (.pick c a b) H=zcq (ev env c) (ev env a) (ev env b) H:=rfl
theorem znM(t:TypeId):step1 C P env (.alloc t) H=mkSR false True (zep P t H) H:=zab rfl (by simp [Op.operands,needs]) rfl
def boxK(b:Bool)(c:Prop)(v:V)(H:Hp):SR:=match b with|true=>.ok true (c∧zu v=true) (.fp v.cellsV) H ⟨[],[],H.next,H.next⟩|false=>mkSR false c (aBox v H) H
theorem zvf(t:TypeId)(x:Operand):step1 C P env (.box t x) H=boxK (C.fz t) (ev env x).cond (ev env x).val H:=by
 show (if C.fz t=true then _ else _)=_;unfold boxK;cases C.fz t with
 |true=>rw [if_pos rfl]
 |false=>rw [if_neg (by simp)];show SR.ok false (needs [ev env x]∧_) _ _ _=mkSR _ _ _ _;unfold mkSR needs needs;simp only [and_true];rfl
theorem zzL(c:Prop)(v:V):boxK true c v H=.ok true (c∧zu v=true) (.fp v.cellsV) H ⟨[],[],H.next,H.next⟩:=rfl
theorem zun(c:Prop)(v:V):boxK false c v H=mkSR false c (aBox v H) H:=rfl
theorem zrO(t:TypeId)(x:Operand):step1 C P env (.load t x) H=mkSR true (ev env x).cond (zcd P t (ev env x).val H) H:=zab rfl (by simp [Op.operands,needs]) rfl
theorem znH(t:TypeId)(a x:Operand):step1 C P env (.store t a x) H=mkSR false ((ev env a).cond∧(ev env x).cond) (zdH P t (ev env a).val (ev env x).val H) H:=zab rfl (by simp [Op.operands,needs]) rfl
theorem zhZ(x:Operand):step1 C P env (.nilCheck x) H=mkSR true (ev env x).cond (aNil (ev env x).val H) H:=zab rfl (by simp [Op.operands,needs]) rfl
theorem zvg(op:BinOp)(t:TypeId)(x y:Operand)(u:TypeId):step1 C P env (.binOp op t x y u) H=mkSR true ((ev env x).cond∧(ev env y).cond) (aBin P op t (ev env x).val (ev env y).val H) H:=zab rfl (by simp [Op.operands,needs]) rfl
theorem step1_un(op:UnOp)(t:TypeId)(x:Operand):step1 C P env (.unOp op t x) H=mkSR true (ev env x).cond (aUn op (ev env x).val H) H:=zab rfl (by simp [Op.operands,needs]) rfl
theorem zjJ(s d:TypeId)(x:Operand):step1 C P env (.convert s d x) H=mkSR false (ev env x).cond (zc7 P s d (ev env x).val H) H:=zab rfl (by simp [Op.operands,needs]) rfl
theorem znK(t:TypeId)(x:Operand):step1 C P env (.makeInterface t x) H=mkSR true (ev env x).cond (zaU P t (ev env x).val H) H:=zab rfl (by simp [Op.operands,needs]) rfl
theorem zh0(f:FuncId)(caps:List Operand):step1 C P env (.makeFunc (.func f) #[] ⟨caps⟩) H=mkSR true (needs (caps.map (ev env))) (.val H (.fn f (caps.map (rho env)))) H:=zab rfl (by simp [Op.operands]) rfl
theorem zgV(t:TypeId)(l c:Operand):step1 C P env (.makeSlice t l c) H=mkSR false ((ev env l).cond∧(ev env c).cond) (zaE P t (ev env l).val (ev env c).val H) H:=zab rfl (by simp [Op.operands,needs]) rfl
theorem zjF(t:TypeId)(x l:Operand):step1 C P env (.slice t x (some l) none none) H=mkSR true ((ev env x).cond∧(ev env l).cond) (zaW P t (ev env x).val (some (ev env l).val) none none H) H:=zab rfl (by simp [Op.operands,needs]) rfl
theorem zjG(t:TypeId)(x h:Operand):step1 C P env (.slice t x none (some h) none) H=mkSR true ((ev env x).cond∧(ev env h).cond) (zaW P t (ev env x).val none (some (ev env h).val) none H) H:=zab rfl (by simp [Op.operands,needs]) rfl
theorem zjE(t:TypeId)(x l h:Operand):step1 C P env (.slice t x (some l) (some h) none) H=mkSR true ((ev env x).cond∧(ev env l).cond∧(ev env h).cond) (zaW P t (ev env x).val (some (ev env l).val) (some (ev env h).val) none H) H:=zab rfl (by simp [Op.operands,needs]) rfl
theorem zgY(t:TypeId)(x:Operand)(f:Nat):step1 C P env (.fieldAddr t x f) H=mkSR true (ev env x).cond (zav P t (ev env x).val f H) H:=zab rfl (by simp [Op.operands,needs]) rfl
theorem zgX(t:TypeId)(x i:Operand):step1 C P env (.indexAddr t x i) H=mkSR true ((ev env x).cond∧(ev env i).cond) (zaf P t (ev env x).val (ev env i).val H) H:=zab rfl (by simp [Op.operands,needs]) rfl
theorem znJ(t:TypeId)(x i:Operand):step1 C P env (.index t x i) H=mkSR true ((ev env x).cond∧(ev env i).cond) (zcN P t (ev env x).val (ev env i).val H) H:=zab rfl (by simp [Op.operands,needs]) rfl
theorem zjI(x:Operand)(i:Nat):step1 C P env (.extract x i) H=mkSR true (ev env x).cond (zbe (ev env x).val i H) H:=zab rfl (by simp [Op.operands,needs]) rfl
theorem zvd(t:TypeId)(x:Operand):step1 C P env (.call { callee:=.builtin .len,args:=⟨[x]⟩,argTypes:=⟨[t]⟩ }) H=mkSR true (ev env x).cond (aLen P t (ev env x).val H) H:=zab rfl (by simp [Op.operands,Call.operands,needs]) rfl
theorem zly(t u:TypeId)(x y:Operand):step1 C P env (.call { callee:=.builtin .append,args:=⟨[x,y]⟩,argTypes:=⟨[t,u]⟩ }) H=mkSR false ((ev env x).cond∧(ev env y).cond) (zcx P t u (ev env x).val (ev env y).val H) H:=zab rfl (by simp [Op.operands,Call.operands,needs]) rfl
theorem zvc(x y:Operand)(ts:Array TypeId):step1 C P env (.call { callee:=.builtin .max,args:=⟨[x,y]⟩,argTypes:=ts }) H=mkSR true ((ev env x).cond∧(ev env y).cond) (aMax (ev env x).val (ev env y).val true H) H:=zab rfl (by simp [Op.operands,Call.operands,needs]) rfl
def zbN(env:Env):List (Nat×Operand)→List (Nat×V)
 |[]=>[]
 |(i,x)::r=>(i,(ev env x).val)::zbN env r
theorem zsh:zbN env []=[]:=rfl
theorem zn7(i:Nat)(x:Operand)(r:List (Nat×Operand)):zbN env ((i,x)::r)=(i,(ev env x).val)::zbN env r:=rfl
theorem zc1:∀ ps:List (Nat×Operand),ps.map (fun p=>(p.1,rho env p.2))=zbN env ps
 |[]=>rfl
 |(i,x)::r=>by rw [List.map_cons,zc1 r];rfl
def zhj(env:Env):List (Nat×Operand)→Prop
 |[]=>True
 |(_,x)::r=>(ev env x).cond∧zhj env r
theorem zss:zhj env []=True:=rfl
theorem zol(i:Nat)(x:Operand)(r:List (Nat×Operand)):zhj env ((i,x)::r)=((ev env x).cond∧zhj env r):=rfl
theorem zhi:∀ ps:List (Nat×Operand),needs ((ps.map (·.2)).map (ev env))↔zhj env ps
 |[]=>Iff.rfl
 |_::r=>and_congr Iff.rfl (zhi r)
theorem znL(t:TypeId)(ps:List (Nat×Operand)):step1 C P env (.build t ⟨ps⟩) H=mkSR true (zhj env ps) (zcP P t (zbN env ps) H) H:=
 zab rfl (by rw [←zhi];simp [Op.operands]) (by rw [←zc1];rfl)
theorem zgb(t:TypeId)(n:Nat)(ps:List (Nat×Operand)):step1 C P env (.buildSlice t n ⟨ps⟩) H=mkSR false (zhj env ps) (zS P t n (zbN env ps) H) H:=
 zab rfl (by rw [←zhi];simp [Op.operands]) (by rw [←zc1];rfl)
theorem znI(x:Operand):step1 C P env (.panic x) H=match (ev env x).val with| .ifc t v=>.pan (ev env x).cond (.ifc t v) []|_=>.bad:=rfl
def vals(env:Env):List Operand→List V
 |[]=>[]
 |x::r=>(ev env x).val::vals env r
theorem vals_nil:vals env []=[]:=rfl
theorem zuN(x:Operand)(r:List Operand):vals env (x::r)=(ev env x).val::vals env r:=rfl
theorem vals_eq:∀ xs:List Operand,xs.map (rho env)=vals env xs
 |[]=>rfl
 |x::r=>by rw [List.map_cons,vals_eq r];rfl
def conds(env:Env):List Operand→Prop
 |[]=>True
 |x::r=>(ev env x).cond∧conds env r
theorem zx4:conds env []=True:=rfl
theorem ztE(x:Operand)(r:List Operand):conds env (x::r)=((ev env x).cond∧conds env r):=rfl
theorem zkU:∀ xs:List Operand,needs (xs.map (ev env))=conds env xs
 |[]=>rfl
 |x::r=>by rw [List.map_cons,zsr,zkU r];rfl
theorem zgW(f:FuncId)(caps:List Operand):step1 C P env (.makeFunc (.func f) ⟨[]⟩ ⟨caps⟩) H=mkSR true (conds env caps) (.val H (.fn f (vals env caps))) H:=by rw [←vals_eq, ←zkU];exact zh0 f caps
def callF(C:Cfg)(v:V)(as:List V)(nd:Prop)(H:Hp):SR:=
 match v with
 | .fn f caps=>zch C f (as++caps) nd H
 | .bnd f fs=>zch C f (fs++as) nd H
 |_=>.bad
theorem callF_fn(f:FuncId)(caps as:List V)(nd:Prop):callF C (.fn f caps) as nd H=zch C f (as++caps) nd H:=rfl
theorem zrP(f:Operand)(args:List Operand)(ts:Array TypeId):step1 C P env (.call { callee:=.value f,args:=⟨args⟩,argTypes:=ts }) H=
 callF C (ev env f).val (vals env args) ((ev env f).cond∧conds env args) H:=by
 rw [←vals_eq, ←zkU];rfl
def zmR(o:Option PR)(C:Cfg)(f:FuncId)(as:List V)(nd:Prop)(H:Hp):SR:=
 match o with
 |some (.ret v)=>.ok true nd v H ⟨[],[],0,0⟩
 |some (.panic v)=>.pan nd v []
 |none=>
  match C.Δ f as H with
  |some r=>mkSR false nd r H
  |none=>.bad
def nzs:List V→List V
 |[]=>[]
 |v::r=>nz v::nzs r
theorem nzs_nil:nzs []=[]:=rfl
theorem nzs_cons(v:V)(r:List V):nzs (v::r)=nz v::nzs r:=rfl
theorem nzs_eq:∀ as:List V,as.map nz=nzs as
 |[]=>rfl
 |v::r=>by rw [List.map_cons,nzs_eq r];rfl
theorem nz_bool(b:Bool):nz (.bool b)=.bool b:=rfl
theorem nz_int(k:IntKind)(n:Int):nz (.int k n)=.int k n:=rfl
theorem nz_str(l:List UInt8):nz (.str l)=.str l:=rfl
theorem nz_nilS:nz .nilS=.fs [] 0:=rfl
theorem nz_sl(b o l s:Nat)(k:Option Nat):nz (.sl b o l s k)=.sl b o l s k:=rfl
theorem nz_fs(cs:List V)(n:Nat):nz (.fs cs n)=.fs cs n:=rfl
theorem nz_nilP:nz .nilP=.nilP:=rfl
theorem nz_ptr(b o:Nat):nz (.ptr b o)=.ptr b o:=rfl
theorem nz_fp(cs:List V):nz (.fp cs)=.fp cs:=rfl
theorem nz_nilM:nz .nilM=.nilM:=rfl
theorem nz_map(b:Nat):nz (.map b)=.map b:=rfl
theorem nz_fn(f:FuncId)(cs:List V):nz (.fn f cs)=.fn f cs:=rfl
theorem nz_nilF:nz .nilF=.nilF:=rfl
theorem nz_ifc(t:TypeId)(v:V):nz (.ifc t v)=.ifc t v:=rfl
theorem nz_nilI:nz .nilI=.nilI:=rfl
theorem nz_agg(cs:List V):nz (.agg cs)=.agg cs:=rfl
theorem nz_tup(cs:List V):nz (.tup cs)=.tup cs:=rfl
theorem nz_any:nz .any=.any:=rfl
def zo5(b:Bool)(C:Cfg)(f:FuncId)(as:List V)(nd:Prop)(H:Hp):SR:=
 match b with
 |true=>zmR (C.Γ f (nzs as)) C f as nd H
 |false=>
  match C.Δ f as H with
  |some r=>mkSR false nd r H
  |none=>
   match C.Γ f (as.map (lend H))with
   |some (.ret v)=>.ok true (nd∧zaw v=true) v H ⟨zcb as,[],0,0⟩
   |some (.panic v)=>.pan (nd∧zaw v=true) v (zcb as)
   |none=>.bad
theorem call1_eq(f:FuncId)(as:List V)(nd:Prop):zch C f as nd H=zo5 (zcb as).isEmpty C f as nd H:=by
 unfold zch zo5;cases (zcb as).isEmpty with
 |true=>rw [if_pos rfl, ←nzs_eq];unfold zmR mkSR;rfl
 |false=>rw [if_neg (by simp)];rfl
theorem ztQ(f:FuncId)(as:List V)(nd:Prop):zo5 true C f as nd H=zmR (C.Γ f (nzs as)) C f as nd H:=rfl
@[congr] theorem callE_congr {b b':Bool}{f:FuncId}{as:List V}{nd:Prop}(h:b=b'):zo5 b C f as nd H=zo5 b' C f as nd H:=by rw [h]
theorem lend_sl(b off len sz:Nat)(kc:Option Nat):lend H (.sl b off len sz kc)=zsF (H.get b) b off len sz kc:=rfl
theorem zsE(cs:List V)(b off len sz:Nat)(kc:Option Nat):zsF (some (.cells cs)) b off len sz kc=if off+len*sz≤cs.length then .fs ((cs.drop off).take (len*sz)) len else .sl b off len sz kc:=rfl
theorem zwV(b:Bool):lend H (.bool b)=.bool b:=rfl
theorem lend_int(k:IntKind)(n:Int):lend H (.int k n)=.int k n:=rfl
theorem lend_str(l:List UInt8):lend H (.str l)=.str l:=rfl
theorem zwT:lend H .nilS=.fs [] 0:=rfl
theorem lend_fs(cs:List V)(n:Nat):lend H (.fs cs n)=.fs cs n:=rfl
theorem zwU:lend H .nilP=.nilP:=rfl
theorem lend_ptr(b o:Nat):lend H (.ptr b o)=zsI (H.get b) b o:=rfl
theorem zsH(cs:List V)(b off:Nat):zsI (some (.cells cs)) b off=.fp (cs.drop off):=rfl
theorem lend_fp(cs:List V):lend H (.fp cs)=.fp cs:=rfl
theorem lend_map(b:Nat):lend H (.map b)=.map b:=rfl
def ziX(H:Hp):List V→List V
 |[]=>[]
 |v::r=>zel H v::ziX H r
theorem zsC:ziX H []=[]:=rfl
theorem zos(v:V)(r:List V):ziX H (v::r)=zel H v::ziX H r:=rfl
theorem zmc:∀ vs:List V,vs.map (zel H)=ziX H vs
 |[]=>rfl
 |v::r=>by rw [List.map_cons,zmc r];rfl
theorem lend_fn(f:FuncId)(cs:List V):lend H (.fn f cs)=.fn f (ziX H cs):=by rw [←zmc];rfl
theorem lend0_sl(b off len sz:Nat)(kc:Option Nat):zel H (.sl b off len sz kc)=zsF (H.get b) b off len sz kc:=rfl
theorem zwY(b o:Nat):zel H (.ptr b o)=zsI (H.get b) b o:=rfl
theorem zsK(b:Bool):zel H (.bool b)=.bool b:=rfl
theorem zwZ(k:IntKind)(n:Int):zel H (.int k n)=.int k n:=rfl
theorem zwX(l:List UInt8):zel H (.str l)=.str l:=rfl
theorem lend0_fs(cs:List V)(n:Nat):zel H (.fs cs n)=.fs cs n:=rfl
theorem lend0_fp(cs:List V):zel H (.fp cs)=.fp cs:=rfl
theorem zsa(b:Bool):zdI (.bool b)=[]:=rfl
theorem zvK(k:IntKind)(n:Int):zdI (.int k n)=[]:=rfl
theorem zvI(l:List UInt8):zdI (.str l)=[]:=rfl
theorem refs1_fs(cs:List V)(n:Nat):zdI (.fs cs n)=[]:=rfl
theorem refs1_fp(cs:List V):zdI (.fp cs)=[]:=rfl
theorem zr8:zdI .nilS=[]:=rfl
theorem zr9:zdI .nilP=[]:=rfl
theorem refs1_sl(b off len sz:Nat)(kc:Option Nat):zdI (.sl b off len sz kc)=[b]:=rfl
theorem zvJ(b o:Nat):zdI (.ptr b o)=[b]:=rfl
def zn0:List V→List Nat
 |[]=>[]
 |v::r=>zdi v++zn0 r
theorem zvH:zn0 []=[]:=rfl
theorem zr7(v:V)(r:List V):zn0 (v::r)=zdi v++zn0 r:=rfl
theorem zjZ:∀ vs:List V,vs.flatMap zdi=zn0 vs
 |[]=>rfl
 |v::r=>by rw [List.flatMap_cons,zjZ r];rfl
theorem refs1_fn(f:FuncId)(cs:List V):zdI (.fn f cs)=zn0 cs:=by rw [←zjZ];rfl
theorem zvL(cs:List V):zdI (.agg cs)=zn0 cs:=by rw [←zjZ];rfl
theorem refs0_sl(b off len sz:Nat)(kc:Option Nat):zdi (.sl b off len sz kc)=[b]:=rfl
theorem zvO(b o:Nat):zdi (.ptr b o)=[b]:=rfl
theorem zvP(k:IntKind)(n:Int):zdi (.int k n)=[]:=rfl
theorem zvN(l:List UInt8):zdi (.str l)=[]:=rfl
theorem zsd(b:Bool):zdi (.bool b)=[]:=rfl
theorem refs0_fs(cs:List V)(n:Nat):zdi (.fs cs n)=[]:=rfl
theorem refs0_fp(cs:List V):zdi (.fp cs)=[]:=rfl
theorem zwW:zcb []=[]:=rfl
theorem zsG(v:V)(r:List V):zcb (v::r)=zdI v++zcb r:=rfl
theorem znQ(b:Bool):zaw (.bool b)=true:=rfl
theorem scalar_int(k:IntKind)(n:Int):zaw (.int k n)=true:=rfl
theorem zrW(l:List UInt8):zaw (.str l)=true:=rfl
theorem zrV(vs:List V):zaw (.tup vs)=vs.all zeE:=rfl
theorem zrY(vs:List V):zaw (.agg vs)=vs.all zeE:=rfl
theorem zrX(t:TypeId)(v:V):zaw (.ifc t v)=zeE v:=rfl
theorem zz8:([]:List V).all zeE=true:=rfl
theorem zus(v:V)(r:List V):(v::r).all zeE=(zeE v&&r.all zeE):=rfl
theorem zz9(b:Bool):zeE (.bool b)=true:=rfl
theorem atom_int(k:IntKind)(n:Int):zeE (.int k n)=true:=rfl
theorem atom_str(l:List UInt8):zeE (.str l)=true:=rfl
theorem lend_ifc(t:TypeId)(v:V):lend H (.ifc t v)=.ifc t v:=rfl
theorem zsJ:zel H .nilS=.fs [] 0:=rfl
theorem zsc:zdi .nilS=[]:=rfl
theorem zyt(v:V)(f:FuncId)(as:List V)(nd:Prop):zmR (some (.ret v)) C f as nd H=.ok true nd v H ⟨[],[],0,0⟩:=rfl
theorem zyu(v:V)(f:FuncId)(as:List V)(nd:Prop):zmR (some (.panic v)) C f as nd H=.pan nd v []:=rfl
@[congr] theorem callG_congr {o o':Option PR}{f:FuncId}{as:List V}{nd:Prop}(h:o=o'):zmR o C f as nd H=zmR o' C f as nd H:=by rw [h]
def callM(o:Option AR)(nd:Prop)(H:Hp):SR:=match o with|some r=>mkSR false nd r H|none=>.bad
theorem ztP(f:FuncId)(as:List V)(nd:Prop):zmR none C f as nd H=callM (C.Δ f as H) nd H:=rfl
theorem ztN(r:AR)(nd:Prop):callM (some r) nd H=mkSR false nd r H:=rfl
def zo6(o:Option AR)(C:Cfg)(f:FuncId)(as:List V)(nd:Prop)(H:Hp):SR:=
 match o with
 |some r=>mkSR false nd r H
 |none=>
  match C.Γ f (as.map (lend H))with
  |some (.ret v)=>.ok true (nd∧zaw v=true) v H ⟨zcb as,[],0,0⟩
  |some (.panic v)=>.pan (nd∧zaw v=true) v (zcb as)
  |none=>.bad
theorem zo4(f:FuncId)(as:List V)(nd:Prop):zo5 false C f as nd H=zo6 (C.Δ f as H) C f as nd H:=by unfold zo5 zo6;rfl
@[congr] theorem callD_congr {o o':Option AR}{f:FuncId}{as:List V}{nd:Prop}(h:o=o'):zo6 o C f as nd H=zo6 o' C f as nd H:=by rw [h]
theorem ztR(r:AR)(f:FuncId)(as:List V)(nd:Prop):zo6 (some r) C f as nd H=mkSR false nd r H:=rfl
def ztO(o:Option PR)(as:List V)(nd:Prop)(H:Hp):SR:=
 match o with
 |some (.ret v)=>.ok true (nd∧zaw v=true) v H ⟨zcb as,[],0,0⟩
 |some (.panic v)=>.pan (nd∧zaw v=true) v (zcb as)
 |none=>.bad
def zsD(H:Hp):List V→List V
 |[]=>[]
 |v::r=>lend H v::zsD H r
theorem zwS:zsD H []=[]:=rfl
theorem zsB(v:V)(r:List V):zsD H (v::r)=lend H v::zsD H r:=rfl
theorem zqk:∀ as:List V,as.map (lend H)=zsD H as
 |[]=>rfl
 |v::r=>by rw [List.map_cons,zqk r];rfl
theorem ztS(f:FuncId)(as:List V)(nd:Prop):zo6 none C f as nd H=ztO (C.Γ f (zsD H as)) as nd H:=by rw [←zqk];unfold zo6 ztO;rfl
@[congr] theorem callL_congr {o o':Option PR}{as:List V}{nd:Prop}(h:o=o'):ztO o as nd H=ztO o' as nd H:=by rw [h]
theorem zyr(v:V)(as:List V)(nd:Prop):ztO (some (.ret v)) as nd H=.ok true (nd∧zaw v=true) v H ⟨zcb as,[],0,0⟩:=rfl
theorem zys(v:V)(as:List V)(nd:Prop):ztO (some (.panic v)) as nd H=.pan (nd∧zaw v=true) v (zcb as):=rfl
def extΓ(f0:FuncId)(c:List V→Option PR)(Γ:FuncId→List V→Option PR):FuncId→List V→Option PR:=fun f as=>bif f==f0 then c as else Γ f as
def noΓ:FuncId→List V→Option PR:=fun _ _=>none
def zcT(f0:FuncId)(c:List V→Hp→Option AR)(Δ:FuncId→List V→Hp→Option AR):FuncId→List V→Hp→Option AR:=fun f as H=>bif f==f0 then c as H else Δ f as H
def noΔ:FuncId→List V→Hp→Option AR:=fun _ _ _=>none
theorem zqD(f0:FuncId)(c:List V→Option PR)(Γ:FuncId→List V→Option PR)(f:FuncId)(as:List V):extΓ f0 c Γ f as=bif f==f0 then c as else Γ f as:=rfl
theorem noΓ_at(f:FuncId)(as:List V):noΓ f as=none:=rfl
theorem zqC(f0:FuncId)(c:List V→Hp→Option AR)(Δ:FuncId→List V→Hp→Option AR)(f:FuncId)(as:List V)(H:Hp):zcT f0 c Δ f as H=bif f==f0 then c as H else Δ f as H:=rfl
theorem noΔ_at(f:FuncId)(as:List V)(H:Hp):noΔ f as H=none:=rfl
def zcQ(P:Program)(Γ:FuncId→List V→Option PR):Prop:=∀ f args r,Γ f args=some r→PCall P f args r
def za5(P:Program)(Δ:FuncId→List V→Hp→Option AR):Prop:=∀ f args H r,Δ f args H=some r→HCall P f args H r
theorem zh:zcQ P noΓ:=fun _ _ _ h=>by cases h
theorem zf:za5 P noΔ:=fun _ _ _ _ h=>by cases h
theorem zg {f0:FuncId}{c:List V→Option PR}{Γ:FuncId→List V→Option PR}(h:∀ args r,c args=some r→PCall P f0 args r)(hΓ:zcQ P Γ):zcQ P (extΓ f0 c Γ):=fun f args r e=>by
 rw [zqD]at e;cases hb:f==f0 with
 |true=>rw [hb]at e;simp at hb;subst hb;exact h _ _ e
 |false=>rw [hb]at e;exact hΓ _ _ _ e
theorem zaC {f0:FuncId}{c:List V→Hp→Option AR}{Δ:FuncId→List V→Hp→Option AR}(h:∀ args H r,c args H=some r→HCall P f0 args H r)(hΔ:za5 P Δ):za5 P (zcT f0 c Δ):=fun f args H r e=>by
 rw [zqC]at e;cases hb:f==f0 with
 |true=>rw [hb]at e;simp at hb;subst hb;exact h _ _ _ e
 |false=>rw [hb]at e;exact hΔ _ _ _ _ e
end Go.Ab
