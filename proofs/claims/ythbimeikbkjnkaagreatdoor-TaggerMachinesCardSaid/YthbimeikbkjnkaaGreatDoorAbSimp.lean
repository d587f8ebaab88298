/- How simp is to walk: small rewrite rules, one an operation; what is looked into first, what is left alone. -/
import Derived.Test.YthbimeikbkjnkaaGreatDoorAbExec
import Derived.Tactics
set_option linter.all false
set_option maxHeartbeats 16000000
set_option maxRecDepth 100000
namespace Go.Ab
variable {C:Cfg}{P:Program}
def zd0:Env→Nat→V
 |[],_=>.any
 |(k,v)::r,t=>bif t==k then v else zd0 r t
theorem zyv(t:Nat):zd0 [] t=.any:=rfl
theorem zjE(k:Nat)(v:V)(r:Env)(t:Nat):zd0 ((k,v)::r) t=bif t==k then v else zd0 r t:=rfl
theorem zdC:∀(env:Env) (t:Nat),(env.lookup t).getD .any=zd0 env t
 |[],_=>rfl
 |(k,v)::r,t=>by rw [Yq,zjE, ←zdC r t];cases t==k<;>rfl
theorem ev_tmp(env:Env)(t:Nat):ev env (.tmp t)=zd0 env t:=zdC env t
theorem ev_const(env:Env)(v:Value):ev env (.const v)=cv v:=rfl
theorem ev_func(env:Env)(f:FuncId):ev env (.func f)=.fn f []:=rfl
theorem zzr(env:Env)(k:Nat):ev env (.global k)=(match GL k with|some cs=>.fp cs|none=>.any):=rfl
theorem cv_bool(b:Bool):cv (.bool b)=.bool b:=rfl
theorem cv_int(k:IntKind)(n:Int):cv (.int k n)=.int k n:=rfl
theorem cv_str(l:List UInt8):cv (.string ⟨l.toArray⟩)=.str l:=rfl
theorem cv_nilS:cv (.slice none 0 0)=.nilS:=rfl
theorem cv_nilP:cv (.pointer none)=.nilP:=rfl
theorem cv_nilM:cv (.map none)=.nilM:=rfl
theorem cv_nilF:cv .nilFunc=.nilF:=rfl
theorem cv_nilI:cv .nilIface=.nilI:=rfl
theorem cv_agg(cs:List Value):cv (.agg cs.toArray)=.agg (cs.map cv1):=rfl
theorem cv_tup(cs:List Value):cv (.tuple cs.toArray)=.tup (cs.map cv1):=rfl
theorem cv1_bool(b:Bool):cv1 (.bool b)=.bool b:=rfl
theorem cv1_int(k:IntKind)(n:Int):cv1 (.int k n)=.int k n:=rfl
theorem cv1_str(l:List UInt8):cv1 (.string ⟨l.toArray⟩)=.str l:=rfl
theorem cv1_nilS:cv1 (.slice none 0 0)=.nilS:=rfl
theorem cv1_nilP:cv1 (.pointer none)=.nilP:=rfl
theorem cv1_nilM:cv1 (.map none)=.nilM:=rfl
theorem cv1_nilF:cv1 .nilFunc=.nilF:=rfl
theorem cv1_nilI:cv1 .nilIface=.nilI:=rfl
theorem vc_bool(b:Bool):V.cond (.bool b)=True:=rfl
theorem vc_int(k:IntKind)(n:Int):V.cond (.int k n)=True:=rfl
theorem vc_str(l:List UInt8):V.cond (.str l)=True:=rfl
theorem vc_nilS:V.cond .nilS=True:=rfl
theorem vc_sl(b o l s:Nat)(k:Option Nat):V.cond (.sl b o l s k)=True:=rfl
theorem vc_fs(cs:List V)(n:Nat):V.cond (.fs cs n)=True:=rfl
theorem vc_nilP:V.cond .nilP=True:=rfl
theorem vc_ptr(b o:Nat):V.cond (.ptr b o)=True:=rfl
theorem vc_fp(cs:List V):V.cond (.fp cs)=True:=rfl
theorem vc_nilM:V.cond .nilM=True:=rfl
theorem vc_map(b:Nat):V.cond (.map b)=True:=rfl
theorem vc_fn(f:FuncId)(cs:List V):V.cond (.fn f cs)=True:=rfl
theorem vc_nilF:V.cond .nilF=True:=rfl
theorem vc_ifc(t:TypeId)(v:V):V.cond (.ifc t v)=True:=rfl
theorem vc_nilI:V.cond .nilI=True:=rfl
theorem vc_agg(cs:List V):V.cond (.agg cs)=True:=rfl
theorem vc_tup(cs:List V):V.cond (.tup cs)=True:=rfl
theorem vc_any:V.cond .any=True:=rfl
theorem vc_opt(b:Bool)(v:V):V.cond (.opt b v)=(b=true):=rfl
theorem vv_bool(b:Bool):V.val (.bool b)=.bool b:=rfl
theorem vv_int(k:IntKind)(n:Int):V.val (.int k n)=.int k n:=rfl
theorem vv_str(l:List UInt8):V.val (.str l)=.str l:=rfl
theorem vv_nilS:V.val .nilS=.nilS:=rfl
theorem vv_sl(b o l s:Nat)(k:Option Nat):V.val (.sl b o l s k)=.sl b o l s k:=rfl
theorem vv_fs(cs:List V)(n:Nat):V.val (.fs cs n)=.fs cs n:=rfl
theorem vv_nilP:V.val .nilP=.nilP:=rfl
theorem vv_ptr(b o:Nat):V.val (.ptr b o)=.ptr b o:=rfl
theorem vv_fp(cs:List V):V.val (.fp cs)=.fp cs:=rfl
theorem vv_nilM:V.val .nilM=.nilM:=rfl
theorem vv_map(b:Nat):V.val (.map b)=.map b:=rfl
theorem vv_fn(f:FuncId)(cs:List V):V.val (.fn f cs)=.fn f cs:=rfl
theorem vv_nilF:V.val .nilF=.nilF:=rfl
theorem vv_ifc(t:TypeId)(v:V):V.val (.ifc t v)=.ifc t v:=rfl
theorem vv_nilI:V.val .nilI=.nilI:=rfl
theorem vv_agg(cs:List V):V.val (.agg cs)=.agg cs:=rfl
theorem vv_tup(cs:List V):V.val (.tup cs)=.tup cs:=rfl
theorem vv_any:V.val .any=.any:=rfl
theorem vv_opt(b:Bool)(v:V):V.val (.opt b v)=v:=rfl
def delE(t:Nat)(env:Env):Env:=env.filter fun p=>p.1 != t
theorem delE_nil(t:Nat):delE t []=[]:=rfl
theorem zzF(t k:Nat)(v:V)(r:Env):delE t ((k,v)::r)=bif k==t then delE t r else(k,v)::delE t r:=by
 unfold delE;rw [YaC];by_cases h:k=t
 ·subst h;simp
 ·have h1:(k==t)=false:=by simp [h]
  have h2:(k != t)=true:=by simp [h]
  simp [h1];intro e;exact absurd e h
theorem zwv(keep:Nat→Bool):zcE keep []=[]:=rfl
theorem zsO(keep:Nat→Bool)(t:Nat)(v:V)(r:Env):zcE keep ((t,v)::r)=bif keep t then(t,v)::delE t (zcE keep r)else zcE keep r:=by rw [zcE];cases keep t<;>rfl
def zbq:List Nat→Nat→Bool
 |[],_=>false
 |k::r,t=>(t==k)||zbq r t
theorem zyU(t:Nat):zbq [] t=false:=rfl
theorem zup(k:Nat)(r:List Nat)(t:Nat):zbq (k::r) t=((t==k)||zbq r t):=rfl
theorem trim_mk(keep:Nat→Bool)(env:Env)(h:Hp):St.trim ⟨env,h⟩ keep=⟨zcE keep env,h⟩:=rfl
def zas:List (Nat×Blk)→Nat→Option Blk
 |[],_=>none
 |(k,x)::r,b=>bif b==k then some x else zas r b
theorem zyw(b:Nat):zas [] b=none:=rfl
theorem zjF(k:Nat)(x:Blk)(r:List (Nat×Blk))(b:Nat):zas ((k,x)::r) b=bif b==k then some x else zas r b:=rfl
theorem zbg:∀(bs:List (Nat×Blk)) (b:Nat),bs.lookup b=zas bs b
 |[],_=>rfl
 |(k,v)::r,b=>by rw [Yq,zjF, ←zbg r b];cases b==k<;>rfl
theorem zbh(bs:List (Nat×Blk))(n b:Nat):Hp.get ⟨bs,n⟩ b=zas bs b:=zbg bs b
def putB:List (Nat×Blk)→Nat→Blk→List (Nat×Blk)
 |[],_,_=>[]
 |(k,y)::r,b,x=>(bif k==b then(k,x)else(k,y))::putB r b x
theorem putB_nil(b:Nat)(x:Blk):putB [] b x=[]:=rfl
theorem zmG(k:Nat)(y:Blk)(r:List (Nat×Blk))(b:Nat)(x:Blk):putB ((k,y)::r) b x=(bif k==b then(k,x)else(k,y))::putB r b x:=rfl
theorem zxD:∀(bs:List (Nat×Blk)) (b:Nat) (x:Blk),(bs.map fun p=>if p.1==b then(p.1,x)else p)=putB bs b x
 |[],_,_=>rfl
 |(k,v)::r,b,x=>by rw [YM,zmG,zxD r b x];cases h:k==b<;>simp_all
theorem put_mk(bs:List (Nat×Blk))(n b:Nat)(x:Blk):Hp.put ⟨bs,n⟩ b x=⟨putB bs b x,n⟩:=by rw [←zxD];rfl
def zlh:List (Nat×Blk)→Nat→List (Nat×Blk)
 |[],_=>[]
 |(k,y)::r,b=>bif k==b then zlh r b else(k,y)::zlh r b
theorem zyR(b:Nat):zlh [] b=[]:=rfl
theorem zjI(k:Nat)(y:Blk)(r:List (Nat×Blk))(b:Nat):zlh ((k,y)::r) b=bif k==b then zlh r b else(k,y)::zlh r b:=rfl
theorem zrz:∀(bs:List (Nat×Blk)) (b:Nat),(bs.filter fun p=>p.1 != b)=zlh bs b
 |[],_=>rfl
 |(k,v)::r,b=>by rw [YaC,zjI, ←zrz r b];cases h:k==b<;>simp_all
theorem zyQ(bs:List (Nat×Blk))(n b:Nat):Hp.kill ⟨bs,n⟩ b=⟨zlh bs b,n⟩:=by rw [←zrz];rfl
theorem new_mk(bs:List (Nat×Blk))(n:Nat)(x:Blk):Hp.new ⟨bs,n⟩ x=⟨(n,x)::bs,n+1⟩:=rfl
inductive Fr where
 |seq (y:Code)
 |sem (y:Code)
 |block (id:Nat)
def unst(C:Cfg)(P:Program)(K:Out→St→Prop):List Fr→Out→St→Prop
 |[]=>K
 | .seq y::st=>zgs (fun s=>AXf C P y s (unst C P K st)) (unst C P K st)
 | .sem y::st=>zgs (fun s=>AX C P y s (unst C P K st)) (unst C P K st)
 | .block i::st=>zsv i (unst C P K st)
theorem zb4(K:Out→St→Prop)(v:V)(s:St):∀ st,unst C P K st (.panic v) s=K (.panic v) s
 |[]=>rfl
 | .seq _::st=>zb4 K v s st
 | .sem _::st=>zb4 K v s st
 | .block _::st=>zb4 K v s st
def AXs(C:Cfg)(P:Program)(K:Out→St→Prop)(st:List Fr)(c:Code)(env:Env)(h:Hp):Prop:=AXf C P c ⟨env,h⟩ (unst C P K st)
def AXc(C:Cfg)(P:Program)(K:Out→St→Prop)(st:List Fr)(x y:Code)(b:V)(env:Env)(h:Hp):Prop:=
 match b with
 | .bool b=>if b=true then AXs C P K st x env h else AXs C P K st y env h
 |_=>False
def AXt(C:Cfg)(P:Program)(K:Out→St→Prop)(st:List Fr)(env:Env)(h:Hp):Prop:=AXs C P K st .skip env h
def AXr(C:Cfg)(P:Program)(K:Out→St→Prop)(st:List Fr)(ops:Array Oper)(os:List Oper)(env:Env)(h:Hp):Prop:=ARun C P ops os ⟨env,h⟩ (zb0 C.keep (unst C P K st))
def AXf1(C:Cfg)(P:Program)(K:Out→St→Prop)(st:List Fr)(ops:Array Oper)(os:List Oper)(d:Option Tmp)(r:SR)(env:Env)(h:Hp):Prop:=
 fol C r (fun v h' _=>ARun C P ops os (((⟨env,h⟩:St).put d v).hp h') (zb0 C.keep (unst C P K st))) (fun v=>zb0 C.keep (unst C P K st) (.panic v) ⟨env,h⟩)
def AXg1(C:Cfg)(P:Program)(K:Out→St→Prop)(st:List Fr)(ops:Array Oper)(os:List Oper)(d:Option Tmp)(gb:Option Bool)(r:SR)(env:Env)(h:Hp):Prop:=
 match gb with
 |some gb=>folG C gb r h (fun v h' _=>ARun C P ops os (((⟨env,h⟩:St).put d v).hp h') (zb0 C.keep (unst C P K st))) (fun v=>zb0 C.keep (unst C P K st) (.panic v) ⟨env,h⟩)
 |none=>False
def AXd(C:Cfg)(P:Program)(K:Out→St→Prop)(st:List Fr)(ops:Array Oper)(os:List Oper)(i:Nat)(acc:List (Nat×Foot))(env:Env)(h:Hp):Prop:=DRun C P ops os i ⟨env,h⟩ acc (zb0 C.keep (unst C P K st))
def AXf2(C:Cfg)(P:Program)(K:Out→St→Prop)(st:List Fr)(ops:Array Oper)(os:List Oper)(i:Nat)(d:Option Tmp)(r:SR)(acc:List (Nat×Foot))(env:Env)(h:Hp):Prop:=
 fol C r (fun v h' f=>DRun C P ops os (i+1) (((⟨env,h⟩:St).put d v).hp h') (accF acc i f) (zb0 C.keep (unst C P K st))) (fun v=>zee ops i=true∧chk ops acc=true∧zb0 C.keep (unst C P K st) (.panic v) ⟨env,h⟩)
def AXg2(C:Cfg)(P:Program)(K:Out→St→Prop)(st:List Fr)(ops:Array Oper)(os:List Oper)(i:Nat)(d:Option Tmp)(gb:Option Bool)(r:SR)(acc:List (Nat×Foot))(env:Env)(h:Hp):Prop:=
 match gb with
 |some gb=>folG C gb r h (fun v h' f=>DRun C P ops os (i+1) (((⟨env,h⟩:St).put d v).hp h') (accF acc i f) (zb0 C.keep (unst C P K st))) (fun v=>zee ops i=true∧chk ops acc=true∧zb0 C.keep (unst C P K st) (.panic v) ⟨env,h⟩)
 |none=>False
def AXk(C:Cfg)(P:Program)(K:Out→St→Prop)(st:List Fr)(ops:Array Oper)(acc:List (Nat×Foot))(env:Env)(h:Hp):Prop:=chk ops acc=true∧AXt C P K st (zcE C.keep env) h
variable {K:Out→St→Prop}{st:List Fr}{ops:Array Oper}{os:List Oper}{env:Env}{h:Hp}
@[congr] theorem AXs_congr {c:Code}{env':Env}{h':Hp}(e:env=env')(e':h=h'):AXs C P K st c env h=AXs C P K st c env' h':=by rw [e,e']
@[congr] theorem AXc_congr {x y:Code}{b b':V}{env':Env}{h':Hp}(eb:b=b')(e:env=env')(e':h=h'):AXc C P K st x y b env h=AXc C P K st x y b' env' h':=by rw [eb,e,e']
@[congr] theorem AXt_congr {env':Env}{h':Hp}(e:env=env')(e':h=h'):AXt C P K st env h=AXt C P K st env' h':=by rw [e,e']
@[congr] theorem AXf1_congr {d:Option Tmp}{r r':SR}(e:r=r'):AXf1 C P K st ops os d r env h=AXf1 C P K st ops os d r' env h:=by rw [e]
@[congr] theorem AXg1_congr {d:Option Tmp}{gb gb':Option Bool}{r r':SR}(eb:gb=gb')(e:r=r'):AXg1 C P K st ops os d gb r env h=AXg1 C P K st ops os d gb' r' env h:=by rw [e,eb]
@[congr] theorem AXf2_congr {i:Nat}{d:Option Tmp}{r r':SR}{acc:List (Nat×Foot)}(e:r=r'):AXf2 C P K st ops os i d r acc env h=AXf2 C P K st ops os i d r' acc env h:=by rw [e]
@[congr] theorem AXg2_congr {i:Nat}{d:Option Tmp}{gb gb':Option Bool}{r r':SR}{acc:List (Nat×Foot)}(eb:gb=gb')(e:r=r'):AXg2 C P K st ops os i d gb r acc env h=AXg2 C P K st ops os i d gb' r' acc env h:=by rw [e,eb]
@[congr] theorem AXk_congr {acc acc':List (Nat×Foot)}(ea:acc=acc'):AXk C P K st ops acc env h=AXk C P K st ops acc' env h:=by rw [ea]
theorem AXs.of {c:Code}{s:St}(h:AXs C P K [] c s.env s.h):AXf C P c s K:=h
def AXp(C:Cfg)(P:Program)(K:Out→St→Prop)(st:List Fr)(x y:Code)(b:Bool)(env:Env)(h:Hp):Prop:=AXs C P K ((if b=true then .sem y else .seq y)::st) x env h
theorem axs_seq(x y:Code):AXs C P K st (.seq x y) env h=AXp C P K st x y (zbu x) env h:=by unfold AXp AXs;rw [AXf];cases zbu x<;>rfl
theorem zBv(x y:Code):AXp C P K st x y false env h=AXs C P K (.seq y::st) x env h:=rfl
theorem axp_true(x y:Code):AXp C P K st x y true env h=AXs C P K (.sem y::st) x env h:=rfl
theorem zpB(x:Code):zbu (.loop x)=true:=rfl
theorem zm7(i:Nat)(x:Code):zbu (.block i x)=zbu x:=rfl
theorem zur(x y:Code):zbu (.seq x y)=zbu y:=rfl
theorem zpD(c:Operand)(x y:Code):zbu (.cond c x y)=(zbu x||zbu y):=rfl
theorem zlk(i:Nat)(o:Array Oper)(d:Bool):zbu (.region i o d)=false:=rfl
theorem zpA:zbu .skip=false:=rfl
theorem zus:zbu .ret=false:=rfl
theorem zpC(i:Nat):zbu (.exit i)=false:=rfl
def AXa(C:Cfg)(P:Program)(K:Out→St→Prop)(st:List Fr)(y:Code)(env:Env)(h:Hp):Prop:=AX C P y ⟨env,h⟩ (unst C P K st)
theorem zog(y:Code):AXs C P K (.sem y::st) .skip env h=AXa C P K st y env h:=rfl
theorem zoj(i:Nat)(y:Code):AXs C P K (.sem y::st) (.exit i) env h=AXs C P K st (.exit i) env h:=rfl
theorem zqz(y:Code):AXs C P K (.sem y::st) .ret env h=AXs C P K st .ret env h:=rfl
theorem AXa.go {y:Code}(hm:P.follows .mixedOrders=true)(hΓ:∀ f args r,C.Γ f args=some r→PCall P f args r)(hΔ:∀ f args H r,C.Δ f args H=some r→HCall P f args H r)(hok:zar C.nt y=true)(hx:AXs C P K st y env h):AXa C P K st y env h:=
 zc6 hm ⟨hΓ,hΔ⟩ y _ _ hok hx
theorem AXa.sub {y:Code}{env':Env}{h':Hp}(hs:Sub C ⟨env,h⟩ ⟨env',h'⟩)(hx:AXa C P K st y env' h'):AXa C P K st y env h:=AX.sub hs hx
theorem AXa.freeze {y:Code}{env':Env}{h':Hp}{F:Nat→Prop}(hW:C.Wm=[])(hs:Fz C.nx F ⟨env,h⟩ ⟨env',h'⟩)(hx:AXa C P K st y env' h'):AXa C P K st y env h:=AX.freeze hW hs hx
theorem zBt(i:Nat)(x:Code):AXs C P K st (.block i x) env h=AXs C P K (.block i::st) x env h:=rfl
theorem zof(y:Code):AXs C P K (.seq y::st) .skip env h=AXs C P K st y env h:=rfl
theorem zi9(i:Nat):AXs C P K (.block i::st) .skip env h=AXs C P K st .skip env h:=rfl
theorem zoh:AXs C P K [] .skip env h=K .norm ⟨env,h⟩:=rfl
theorem zoi(i:Nat)(y:Code):AXs C P K (.seq y::st) (.exit i) env h=AXs C P K st (.exit i) env h:=rfl
theorem zja(i j:Nat):AXs C P K (.block j::st) (.exit i) env h=if i=j then AXs C P K st .skip env h else AXs C P K st (.exit i) env h:=rfl
theorem zol(i:Nat):AXs C P K [] (.exit i) env h=K (.exit i) ⟨env,h⟩:=rfl
theorem zqy(y:Code):AXs C P K (.seq y::st) .ret env h=AXs C P K st .ret env h:=rfl
theorem zlQ(i:Nat):AXs C P K (.block i::st) .ret env h=AXs C P K st .ret env h:=rfl
theorem zqA:AXs C P K [] .ret env h=K .ret ⟨env,h⟩:=rfl
theorem axs_cond(c:Operand)(x y:Code):AXs C P K st (.cond c x y) env h=AXc C P K st x y (ev env c) env h:=by unfold AXs AXc AXf;rfl
def AXm(C:Cfg)(P:Program)(K:Out→St→Prop)(st:List Fr)(os:List Oper)(n:Option (Option Tmp×Operand×List Oper))(env:Env)(h:Hp):Prop:=ARunN C P ⟨os⟩ n ⟨env,h⟩ (zb0 C.keep (unst C P K st))
def AXw(C:Cfg)(P:Program)(K:Out→St→Prop)(st:List Fr)(ops:Array Oper)(os:List Oper)(d:Option Tmp)(c:Prop)(x:V)(env:Env)(h:Hp):Prop:=ANext C P ops os d c (zj7 x h) ⟨env,h⟩ (zb0 C.keep (unst C P K st))
def AXl(C:Cfg)(P:Program)(K:Out→St→Prop)(st:List Fr)(os:List Oper)(n:Option (Nat×Op×Nat))(env:Env)(h:Hp):Prop:=DRunN C P ⟨os⟩ n ⟨env,h⟩ (zb0 C.keep (unst C P K st))
def AXe(C:Cfg)(P:Program)(K:Out→St→Prop)(st:List Fr)(ops:Array Oper)(i0:Nat)(op0:Op)(j0:Nat)(os:List Oper)(i:Nat)(acc:List (Nat×Foot))(r:Option LK)(env:Env)(h:Hp):Prop:=
 zCo C P ops i0 op0 j0 os i ⟨env,h⟩ acc r (zb0 C.keep (unst C P K st))
def lateA(b:Bool)(W:List Nat)(h' h:Hp):Prop:=match b with|true=>W=[]∧h'=h|false=>True
def lateB1(b:Bool)(C:Cfg)(P:Program)(op0:Op)(r:Option LK)(h:Hp)(f:Foot):Prop:=match b with|true=>(match r with|some r=>zsw C P op0 r h f|none=>False)|false=>True
def lateR(b:Bool)(env:Env)(h:Hp)(v:V)(f:Foot)(r:Option LK):Option LK:=match b with|true=>some ⟨⟨env,h⟩,v,f⟩|false=>r
theorem axs_run(i:Nat)(os:List Oper):AXs C P K st (.region i ⟨os⟩ false) env h=AXm C P K st os (zfy os) env h:=rfl
theorem axs_draw(i:Nat)(os:List Oper):AXs C P K st (.region i ⟨os⟩ true) env h=AXl C P K st os (zfB os) env h:=rfl
theorem axm_none:AXm C P K st os none env h=AXr C P K st ⟨os⟩ os env h:=rfl
theorem axm_some(d:Option Tmp)(it:Operand)(r:List Oper):AXm C P K st os (some (d,it,r)) env h=AXw C P K st ⟨os⟩ r d (ev env it).cond (rho env it) env h:=rfl
theorem axl_none:AXl C P K st os none env h=AXd C P K st ⟨os⟩ os 0 [] env h:=rfl
theorem axl_some(i0:Nat)(op0:Op)(j0:Nat):AXl C P K st os (some (i0,op0,j0)) env h=AXe C P K st ⟨os⟩ i0 op0 j0 os 0 [] none env h:=rfl
theorem ztR:zfy []=none:=rfl
def zO:Op→Bool
 | .next _ _=>false
 |_=>true
def nextX:=@zfy
theorem ztQ(dst:Option Tmp)(it:Operand)(type:TypeId)(pos:String)(after:Array Edge)(r:List Oper):nextX ({ dst,op:=.next it false,type,pos,after,guard:=none }::r)=some (dst,it,r):=rfl
theorem zmN(a b):zO (.next a b)=false:=rfl
theorem zpn(dst:Option Tmp)(op:Op)(type:TypeId)(pos:String)(after:Array Edge)(g:Option (Nat×Bool))(r:List Oper):zfy ({ dst,op,type,pos,after,guard:=g }::r)=bif zO op then none else nextX ({ dst,op,type,pos,after,guard:=g }::r):=by
 cases h:zO op with
 |false=>rfl
 |true=>
  unfold zfy;cases op<;>first|rfl|cases h
theorem zy4(a):isEn (.move a)=false:=rfl
theorem zyZ(a):isLk (.move a)=false:=rfl
theorem zmO(a):zO (.move a)=true:=rfl
theorem zpJ(a):isEn (.assign a)=false:=rfl
theorem zpG(a):isLk (.assign a)=false:=rfl
theorem ziT(a):zO (.assign a)=true:=rfl
theorem zy3(a)(b)(c):isEn (.pick a b c)=false:=rfl
theorem zyY(a)(b)(c):isLk (.pick a b c)=false:=rfl
theorem zmM(a)(b)(c):zO (.pick a b c)=true:=rfl
theorem zuQ(a):isEn (.alloc a)=false:=rfl
theorem zuE(a):isLk (.alloc a)=false:=rfl
theorem zk9(a):zO (.alloc a)=true:=rfl
theorem isEn_box(a)(b):isEn (.box a b)=false:=rfl
theorem isLk_box(a)(b):isLk (.box a b)=false:=rfl
theorem zpl(a)(b):zO (.box a b)=true:=rfl
theorem zuO(a)(b):isEn (.build a b)=false:=rfl
theorem zuC(a)(b):isLk (.build a b)=false:=rfl
theorem zk7(a)(b):zO (.build a b)=true:=rfl
theorem zh9(a)(b)(c):isEn (.buildSlice a b c)=false:=rfl
theorem zh6(a)(b)(c):isLk (.buildSlice a b c)=false:=rfl
theorem zfx(a)(b)(c):zO (.buildSlice a b c)=true:=rfl
theorem zpI(a)(b)(c)(d):isEn (.insert a b c d)=false:=rfl
theorem zpF(a)(b)(c)(d):isLk (.insert a b c d)=false:=rfl
theorem ziS(a)(b)(c)(d):zO (.insert a b c d)=true:=rfl
theorem zy5(a)(b):isEn (.load a b)=false:=rfl
theorem zy0(a)(b):isLk (.load a b)=false:=rfl
theorem zmP(a)(b):zO (.load a b)=true:=rfl
theorem zuG(a)(b)(c):isEn (.store a b c)=false:=rfl
theorem zuu(a)(b)(c):isLk (.store a b c)=false:=rfl
theorem zkZ(a)(b)(c):zO (.store a b c)=true:=rfl
theorem zuI(a):isEn (.ready a)=false:=rfl
theorem zuw(a):isLk (.ready a)=false:=rfl
theorem zk1(a):zO (.ready a)=true:=rfl
theorem zuF(a):isEn (.waits a)=false:=rfl
theorem zut(a):isLk (.waits a)=false:=rfl
theorem zkY(a):zO (.waits a)=true:=rfl
theorem zlp(a):isEn (.nilCheck a)=false:=rfl
theorem zll(a):isLk (.nilCheck a)=false:=rfl
theorem zgI(a):zO (.nilCheck a)=true:=rfl
theorem zuP(a)(b)(c)(d)(e):isEn (.binOp a b c d e)=false:=rfl
theorem zuD(a)(b)(c)(d)(e):isLk (.binOp a b c d e)=false:=rfl
theorem zk8(a)(b)(c)(d)(e):zO (.binOp a b c d e)=true:=rfl
theorem zy2(a)(b)(c):isEn (.unOp a b c)=false:=rfl
theorem zyX(a)(b)(c):isLk (.unOp a b c)=false:=rfl
theorem zmL(a)(b)(c):zO (.unOp a b c)=true:=rfl
theorem znf(a)(b)(c):isEn (.convert a b c)=false:=rfl
theorem znb(a)(b)(c):isLk (.convert a b c)=false:=rfl
theorem zhT(a)(b)(c):zO (.convert a b c)=true:=rfl
theorem zdj(a)(b):isEn (.sliceToArrayPointer a b)=false:=rfl
theorem zdi(a)(b):isLk (.sliceToArrayPointer a b)=false:=rfl
theorem zcI(a)(b):zO (.sliceToArrayPointer a b)=true:=rfl
theorem zfG(a)(b):isEn (.makeInterface a b)=false:=rfl
theorem zfF(a)(b):isLk (.makeInterface a b)=false:=rfl
theorem zef(a)(b):zO (.makeInterface a b)=true:=rfl
theorem zlr(a)(b)(c):isEn (.makeFunc a b c)=false:=rfl
theorem zln(a)(b)(c):isLk (.makeFunc a b c)=false:=rfl
theorem zgK(a)(b)(c):zO (.makeFunc a b c)=true:=rfl
theorem znd(a)(b):isEn (.makeMap a b)=false:=rfl
theorem zm8(a)(b):isLk (.makeMap a b)=false:=rfl
theorem zhR(a)(b):zO (.makeMap a b)=true:=rfl
theorem zls(a)(b):isEn (.makeChan a b)=false:=rfl
theorem zlo(a)(b):isLk (.makeChan a b)=false:=rfl
theorem zgL(a)(b):zO (.makeChan a b)=true:=rfl
theorem zi2(a)(b)(c):isEn (.makeSlice a b c)=false:=rfl
theorem ziY(a)(b)(c):isLk (.makeSlice a b c)=false:=rfl
theorem zga(a)(b)(c):zO (.makeSlice a b c)=true:=rfl
theorem zuH(a)(b)(c)(d)(e):isEn (.slice a b c d e)=false:=rfl
theorem zuv(a)(b)(c)(d)(e):isLk (.slice a b c d e)=false:=rfl
theorem zk0(a)(b)(c)(d)(e):zO (.slice a b c d e)=true:=rfl
theorem zi4(a)(b)(c):isEn (.fieldAddr a b c)=false:=rfl
theorem zi0(a)(b)(c):isLk (.fieldAddr a b c)=false:=rfl
theorem zgc(a)(b)(c):zO (.fieldAddr a b c)=true:=rfl
theorem zuM(a)(b)(c):isEn (.field a b c)=false:=rfl
theorem zuA(a)(b)(c):isLk (.field a b c)=false:=rfl
theorem zk5(a)(b)(c):zO (.field a b c)=true:=rfl
theorem zi3(a)(b)(c):isEn (.indexAddr a b c)=false:=rfl
theorem ziZ(a)(b)(c):isLk (.indexAddr a b c)=false:=rfl
theorem zgb(a)(b)(c):zO (.indexAddr a b c)=true:=rfl
theorem zuL(a)(b)(c):isEn (.index a b c)=false:=rfl
theorem zuz(a)(b)(c):isLk (.index a b c)=false:=rfl
theorem zk4(a)(b)(c):zO (.index a b c)=true:=rfl
theorem zi1(a)(b)(c)(d):isEn (.mapUpdate a b c d)=false:=rfl
theorem ziX(a)(b)(c)(d):isLk (.mapUpdate a b c d)=false:=rfl
theorem zf9(a)(b)(c)(d):zO (.mapUpdate a b c d)=true:=rfl
theorem zlq(a)(b)(c):isEn (.mapEntry a b c)=true:=rfl
theorem zlm(a)(b)(c):isLk (.mapEntry a b c)=false:=rfl
theorem zgJ(a)(b)(c):zO (.mapEntry a b c)=true:=rfl
theorem zh8(a)(b)(c)(d):isEn (.entryStore a b c d)=false:=rfl
theorem zh5(a)(b)(c)(d):isLk (.entryStore a b c d)=false:=rfl
theorem zfw(a)(b)(c)(d):zO (.entryStore a b c d)=true:=rfl
theorem zuJ(a)(b):isEn (.range a b)=false:=rfl
theorem zux(a)(b):isLk (.range a b)=false:=rfl
theorem zk2(a)(b):zO (.range a b)=true:=rfl
theorem zuN(a):isEn (.entry a)=false:=rfl
theorem zuB(a):isLk (.entry a)=false:=rfl
theorem zk6(a):zO (.entry a)=true:=rfl
theorem zh7(a)(b)(c)(d):isEn (.typeAssert a b c d)=false:=rfl
theorem zh4(a)(b)(c)(d):isLk (.typeAssert a b c d)=false:=rfl
theorem zfv(a)(b)(c)(d):zO (.typeAssert a b c d)=true:=rfl
theorem zne(a)(b):isEn (.extract a b)=false:=rfl
theorem zna(a)(b):isLk (.extract a b)=false:=rfl
theorem zhS(a)(b):zO (.extract a b)=true:=rfl
theorem zy6(a):isEn (.call a)=false:=rfl
theorem zy1(a):isLk (.call a)=false:=rfl
theorem zmQ(a):zO (.call a)=true:=rfl
theorem zuK(a):isEn (.panic a)=false:=rfl
theorem zuy(a):isLk (.panic a)=false:=rfl
theorem zk3(a):zO (.panic a)=true:=rfl
theorem zpH(a b c d):isEn (.lookup a b c d)=false:=rfl
theorem zpE(a b c):isLk (.lookup a b c false)=true:=rfl
theorem zm9(a b c):isLk (.lookup a b c true)=false:=rfl
theorem ziR(a b c d):zO (.lookup a b c d)=true:=rfl
theorem zpu(os:List Oper):zfB os=match ziV os 0 with|none=>none|some j=>ziW os 0 none j:=rfl
theorem zyJ(j:Nat):ziV [] j=none:=rfl
theorem zuj(dst:Option Tmp)(op:Op)(type:TypeId)(pos:String)(after:Array Edge)(g:Option (Nat×Bool))(r:List Oper)(j:Nat):ziV ({ dst,op,type,pos,after,guard:=g }::r) j=bif isEn op then some j else ziV r (j+1):=by
 show (match isEn op with|true=>_|false=>_)=_;cases isEn op<;>rfl
theorem zyL(i:Nat)(x:Option Op)(j:Nat):ziW [] i x j=none:=rfl
theorem zsp(x y:Code):AXc C P K st x y (.bool true) env h=AXs C P K st x env h:=by simp [AXc]
theorem zom(x y:Code):AXc C P K st x y (.bool false) env h=AXs C P K st y env h:=by simp [AXc]
theorem AXc.intro {x y:Code}{b:Bool}(h1:b=true→AXs C P K st x env h)(h2:b=false→AXs C P K st y env h):AXc C P K st x y (.bool b) env h:=by
 cases b with
 |true=>rw [zsp];exact h1 rfl
 |false=>rw [zom];exact h2 rfl
theorem axt_eq:AXt C P K st env h=AXs C P K st .skip env h:=rfl
theorem axr_nil:AXr C P K st ops [] env h=AXt C P K st (zcE C.keep env) h:=rfl
theorem axr_cons(dst:Option Tmp)(op:Op)(type:TypeId)(pos:String)(after:Array Edge):
 AXr C P K st ops ({ dst,op,type,pos,after,guard:=none }::os) env h=AXf1 C P K st ops os dst (step1 C P env op h) env h:=rfl
theorem zBC(d:Tmp)(b:Bool)(pre:Prop)(v:V)(h':Hp)(R W:List Nat)(lo hi:Nat):AXf1 C P K st ops os (some d) (.ok b pre v h' ⟨R,W,lo,hi⟩) env h=(pre∧wok C W=true∧AXr C P K st ops os ((d,v)::env) h'):=rfl
theorem zBD(b:Bool)(pre:Prop)(v:V)(h':Hp)(R W:List Nat)(lo hi:Nat):AXf1 C P K st ops os none (.ok b pre v h' ⟨R,W,lo,hi⟩) env h=(pre∧wok C W=true∧AXr C P K st ops os env h'):=rfl
theorem axf1_pan(d:Option Tmp)(pre:Prop)(v:V)(R:List Nat):AXf1 C P K st ops os d (.pan pre v R) env h=(pre∧K (.panic v) ⟨env,h⟩):=by show (pre∧unst C P K st (.panic v) _)=_;rw [zb4]
def getO:List Oper→Nat→Option Tmp
 |[],_=>none
 |o::r,i=>bif i==0 then o.dst else getO r (i - 1)
theorem znm(o:Oper)(r:List Oper)(i:Nat):getO (o::r) i=bif i==0 then o.dst else getO r (i - 1):=rfl
theorem zzc:∀(os:List Oper) (i:Nat),(os[i]?).bind (·.dst)=getO os i
 |[],_=>rfl
 |o::r,0=>rfl
 |o::r,i+1=>by rw [Yas,zzc r i,znm];rfl
def zgu(v:V)(want:Bool):Option Bool:=
 match v with
 | .bool b=>some (b==want)
 | .opt c (.bool b)=>some (c&&(b==want))
 | .opt false _=>some false
 | .tup []=>some false
 |_=>none
theorem guardV_t(b:Bool):zgu (.bool b) true=some b:=by cases b<;>rfl
theorem guardV_f(b:Bool):zgu (.bool b) false=some (!b):=by cases b<;>rfl
theorem zza(c b:Bool):zgu (.opt c (.bool b)) true=some (c&&b):=by cases b<;>rfl
theorem zzb(c b:Bool):zgu (.opt c (.bool b)) false=some (c&& !b):=by cases b<;>rfl
def znk(o:Option Tmp)(env:Env)(want:Bool):Option Bool:=
 match o with
 |some d=>zgu (zd0 env d) want
 |none=>none
theorem zpN(d:Tmp)(env:Env)(want:Bool):znk (some d) env want=zgu (zd0 env d) want:=rfl
theorem zy9(os:List Oper)(env:Env)(o:Oper)(j:Nat)(want:Bool)(hg:o.guard=some (j,want)):gval ⟨os⟩ env o=znk (getO os j) env want:=by
 unfold gval;rw [hg];have e:((⟨os⟩:Array Oper)[j]?).bind (·.dst)=getO os j:=by rw [←zzc];simp
 simp only [e];unfold znk;cases hd:getO os j with
 |none=>rfl
 |some d=>
  simp only [];rw [←zdC];cases env.lookup d with
  |none=>rfl
  |some v=>
   cases v with
   |opt c v=>cases v<;>cases c<;>rfl
   |tup l=>cases l<;>rfl
   |_=>rfl
theorem zBu(os0:List Oper)(dst:Option Tmp)(op:Op)(type:TypeId)(pos:String)(after:Array Edge)(j:Nat)(want:Bool):
 AXr C P K st ⟨os0⟩ ({ dst,op,type,pos,after,guard:=some (j,want) }::os) env h=AXg1 C P K st ⟨os0⟩ os dst (znk (getO os0 j) env want) (step1 C P env op h) env h:=by
 rw [←zy9 os0 env { dst,op,type,pos,after,guard:=some (j,want) } j want rfl]
 unfold AXr AXg1
 rfl
theorem zBx(d:Tmp)(gb:Bool)(pre:Prop)(v:V)(h':Hp)(R W:List Nat)(lo hi:Nat):AXg1 C P K st ops os (some d) (some gb) (.ok true pre v h' ⟨R,W,lo,hi⟩) env h=((gb=true→pre)∧AXr C P K st ops os ((d,.opt gb v)::env) h):=rfl
theorem zBy(gb:Bool)(pre:Prop)(v:V)(h':Hp)(R W:List Nat)(lo hi:Nat):AXg1 C P K st ops os none (some gb) (.ok true pre v h' ⟨R,W,lo,hi⟩) env h=((gb=true→pre)∧AXr C P K st ops os env h):=rfl
theorem AXg1.pan {d:Tmp}{gb:Bool}{pre:Prop}{v:V}{R:List Nat}(h1:gb=true→pre∧K (.panic v) ⟨env,h⟩)(h2:gb=false→AXr C P K st ops os ((d,undefV)::env) h):AXg1 C P K st ops os (some d) (some gb) (.pan pre v R) env h:=by
 show (if gb=true then(pre∧unst C P K st (.panic v) _)else _);cases gb with
 |true=>rw [Yf rfl,zb4];exact h1 rfl
 |false=>rw [Yd (by simp)];exact h2 rfl
theorem axd_nil(i:Nat)(acc:List (Nat×Foot)):AXd C P K st ops [] i acc env h=AXk C P K st ops acc env h:=rfl
theorem axd_cons(dst:Option Tmp)(op:Op)(type:TypeId)(pos:String)(after:Array Edge)(i:Nat)(acc:List (Nat×Foot)):
 AXd C P K st ops ({ dst,op,type,pos,after,guard:=none }::os) i acc env h=AXf2 C P K st ops os i dst (step1 C P env op h) acc env h:=rfl
theorem zBE(os0:List Oper)(dst:Option Tmp)(op:Op)(type:TypeId)(pos:String)(after:Array Edge)(j:Nat)(want:Bool)(i:Nat)(acc:List (Nat×Foot)):
 AXd C P K st ⟨os0⟩ ({ dst,op,type,pos,after,guard:=some (j,want) }::os) i acc env h=AXg2 C P K st ⟨os0⟩ os i dst (znk (getO os0 j) env want) (step1 C P env op h) acc env h:=by
 rw [←zy9 os0 env { dst,op,type,pos,after,guard:=some (j,want) } j want rfl]
 unfold AXd AXg2
 rfl
def accM(acc:List (Nat×Foot))(i:Nat)(R W:List Nat)(lo hi:Nat):List (Nat×Foot):=bif R.isEmpty&&W.isEmpty&&lo==hi then acc else(i,⟨R,W,lo,hi⟩)::acc
theorem zqE(acc:List (Nat×Foot))(i:Nat)(R W:List Nat)(lo hi:Nat):accF acc i ⟨R,W,lo,hi⟩=accM acc i R W lo hi:=by unfold accF Foot.idle accM;cases (R.isEmpty&&W.isEmpty&&lo==hi)<;>rfl
theorem zBT(acc:List (Nat×Foot))(i lo hi:Nat):accM acc i [] [] lo hi=bif lo==hi then acc else(i,⟨[],[],lo,hi⟩)::acc:=rfl
theorem accM_r(acc:List (Nat×Foot))(i b:Nat)(R W:List Nat)(lo hi:Nat):accM acc i (b::R) W lo hi=(i,⟨b::R,W,lo,hi⟩)::acc:=rfl
theorem accM_w(acc:List (Nat×Foot))(i b:Nat)(W:List Nat)(lo hi:Nat):accM acc i [] (b::W) lo hi=(i,⟨[],b::W,lo,hi⟩)::acc:=rfl
theorem zBA(i:Nat)(d:Tmp)(b:Bool)(pre:Prop)(v:V)(h':Hp)(R W:List Nat)(lo hi:Nat)(acc:List (Nat×Foot)):AXf2 C P K st ops os i (some d) (.ok b pre v h' ⟨R,W,lo,hi⟩) acc env h=
 (pre∧wok C W=true∧AXd C P K st ops os (i+1) (accM acc i R W lo hi) ((d,v)::env) h'):=by rw [←zqE];rfl
theorem zBB(i:Nat)(b:Bool)(pre:Prop)(v:V)(h':Hp)(R W:List Nat)(lo hi:Nat)(acc:List (Nat×Foot)):AXf2 C P K st ops os i none (.ok b pre v h' ⟨R,W,lo,hi⟩) acc env h=
 (pre∧wok C W=true∧AXd C P K st ops os (i+1) (accM acc i R W lo hi) env h'):=by rw [←zqE];rfl
theorem axe_nil(i0:Nat)(op0:Op)(j0:Nat)(i:Nat)(acc:List (Nat×Foot))(l:Option LK):AXe C P K st ops i0 op0 j0 [] i acc l env h=(chkX ops i0 j0 acc=true∧AXt C P K st (zcE C.keep env) h):=rfl
theorem lateA_f(W:List Nat)(h' h:Hp):lateA false W h' h=True:=rfl
theorem lateA_t(W:List Nat)(h' h:Hp):lateA true W h' h=(W=[]∧h'=h):=rfl
theorem lateB_f(op0:Op)(r:Option LK)(h:Hp)(f:Foot):lateB1 false C P op0 r h f=True:=rfl
theorem lateR_f(env:Env)(h:Hp)(v:V)(f:Foot)(r:Option LK):lateR false env h v f r=r:=rfl
theorem lateR_t(env:Env)(h:Hp)(v:V)(f:Foot)(r:Option LK):lateR true env h v f r=some ⟨⟨env,h⟩,v,f⟩:=rfl
theorem lateK_ok(b:Bool)(pre:Prop)(v v':V)(h h':Hp)(f f':Foot):LateK (.ok b pre v' h' f') h v f=(pre∧v'=v∧h'=h∧f'=f):=rfl
theorem axf2_pan(i:Nat)(d:Option Tmp)(pre:Prop)(v:V)(R:List Nat)(acc:List (Nat×Foot)):AXf2 C P K st ops os i d (.pan pre v R) acc env h=(pre∧zee ops i=true∧chk ops acc=true∧K (.panic v) ⟨env,h⟩):=by show (pre∧zee ops i=true∧chk ops acc=true∧unst C P K st (.panic v) _)=_;rw [zb4]
theorem zBw(i:Nat)(d:Tmp)(gb:Bool)(pre:Prop)(v:V)(h':Hp)(R W:List Nat)(lo hi:Nat)(acc:List (Nat×Foot)):AXg2 C P K st ops os i (some d) (some gb) (.ok true pre v h' ⟨R,W,lo,hi⟩) acc env h=
 ((gb=true→pre)∧AXd C P K st ops os (i+1) (accM acc i R [] 0 0) ((d,.opt gb v)::env) h):=by rw [←zqE];rfl
theorem AXg2.pan {i:Nat}{d:Tmp}{gb:Bool}{pre:Prop}{v:V}{R:List Nat}{acc:List (Nat×Foot)}(h1:gb=true→pre∧zee ops i=true∧chk ops acc=true∧K (.panic v) ⟨env,h⟩)
 (h2:gb=false→AXd C P K st ops os (i+1) (accF acc i ⟨[],[],0,0⟩) ((d,undefV)::env) h):AXg2 C P K st ops os i (some d) (some gb) (.pan pre v R) acc env h:=by
 show (if gb=true then(pre∧zee ops i=true∧chk ops acc=true∧unst C P K st (.panic v) _)else _)
 cases gb with
 |true=>rw [Yf rfl,zb4];exact h1 rfl
 |false=>rw [Yd (by simp)];exact h2 rfl
theorem axk_nil:AXk C P K st ops [] env h=AXt C P K st (zcE C.keep env) h:=by show (chk ops []=true∧_)=_;simp [chk]
theorem AXk.intro {acc:List (Nat×Foot)}(h1:chk ops acc=true)(h2:AXt C P K st (zcE C.keep env) h):AXk C P K st ops acc env h:=⟨h1,h2⟩
def zq5:List (Nat×Foot)→Bool
 |[]=>true
 |(_,f)::r=>f.still&&zq5 r
theorem zsU:zq5 []=true:=rfl
theorem zoH(i:Nat)(R W:List Nat)(lo hi:Nat)(r:List (Nat×Foot)):zq5 ((i,⟨R,W,lo,hi⟩)::r)=(W.isEmpty&&lo==hi&&zq5 r):=rfl
theorem wok_nil:wok C []=true:=rfl
theorem wok_cons(b:Nat)(W:List Nat):wok C (b::W)=((decide (C.nx≤b)||C.Wm.contains b)&&wok C W):=rfl
def mkSR(st:Bool)(c:Prop)(r:AR)(H:Hp):SR:=.ok st (c∧r.pre) r.v r.h ⟨r.R,r.W,H.next,r.h.next⟩
@[congr] theorem mkSR_congr {st:Bool}{c c':Prop}{r r':AR}{H:Hp}(hc:c=c')(hr:r=r'):mkSR st c r H=mkSR st c' r' H:=by rw [hc,hr]
theorem mkSR_mk(st:Bool)(c p:Prop)(v:V)(h:Hp)(R W:List Nat)(H:Hp):mkSR st c ⟨p,v,h,R,W⟩ H=.ok st (c∧p) v h ⟨R,W,H.next,h.next⟩:=rfl
theorem next_mk(bs:List (Nat×Blk))(n:Nat):Hp.next ⟨bs,n⟩=n:=rfl
theorem zZ {op:Op}{env:Env}{H:Hp}{c:Prop}{r:AR}(h1:step1 C P env op H=.ok (zeS op) (needs (op.operands.toList.map (ev env))∧(aop P (rho env) op H).pre) (aop P (rho env) op H).v (aop P (rho env) op H).h
 ⟨(aop P (rho env) op H).R,(aop P (rho env) op H).W,H.next,(aop P (rho env) op H).h.next⟩) (h2:needs (op.operands.toList.map (ev env))↔c) (h3:aop P (rho env) op H=r):step1 C P env op H=mkSR (zeS op) c r H:=by
 rw [h1,h3,propext h2];rfl
theorem ztT(v:V)(r:List V):needs (v::r)=(v.cond∧needs r):=rfl
variable {H:Hp}
theorem zsX(x:Operand):step1 C P env (.move x) H=mkSR true (ev env x).cond (.val H (ev env x).val) H:=zZ rfl (by simp [Op.operands,needs]) rfl
theorem zmj(x:Operand):step1 C P env (.assign x) H=mkSR true (ev env x).cond (.val H (ev env x).val) H:=zZ rfl (by simp [Op.operands,needs]) rfl
theorem zsW(c a b:Operand):step1 C P env (.pick c a b) H=zcH (ev env c) (ev env a) (ev env b) H:=rfl
theorem zoP(t:TypeId):step1 C P env (.alloc t) H=mkSR false True (zeQ P t H) H:=zZ rfl (by simp [Op.operands,needs]) rfl
def boxK(b:Bool)(c:Prop)(v:V)(H:Hp):SR:=match b with|true=>.ok true (c∧zq v=true) (.fp v.cellsV) H ⟨[],[],H.next,H.next⟩|false=>mkSR false c (aBox v H) H
theorem zwR(t:TypeId)(x:Operand):step1 C P env (.box t x) H=boxK (C.fz t) (ev env x).cond (ev env x).val H:=by
 show (if C.fz t=true then _ else _)=_;unfold boxK;cases C.fz t with
 |true=>rw [Yf rfl]
 |false=>rw [Yd (by simp)];show SR.ok false (needs [ev env x]∧_) _ _ _=mkSR _ _ _ _;unfold mkSR needs needs;simp only [Yam];rfl
theorem zBn(c:Prop)(v:V):boxK true c v H=.ok true (c∧zq v=true) (.fp v.cellsV) H ⟨[],[],H.next,H.next⟩:=rfl
theorem zvP(c:Prop)(v:V):boxK false c v H=mkSR false c (aBox v H) H:=rfl
theorem zsY(t:TypeId)(x:Operand):step1 C P env (.load t x) H=mkSR true (ev env x).cond (zcr P t (ev env x).val H) H:=zZ rfl (by simp [Op.operands,needs]) rfl
theorem zoI(t:TypeId)(a x:Operand):step1 C P env (.store t a x) H=mkSR false ((ev env a).cond∧(ev env x).cond) (zdX P t (ev env a).val (ev env x).val H) H:=zZ rfl (by simp [Op.operands,needs]) rfl
theorem ziJ(x:Operand):step1 C P env (.nilCheck x) H=mkSR true (ev env x).cond (aNil (ev env x).val H) H:=zZ rfl (by simp [Op.operands,needs]) rfl
theorem zwS(op:BinOp)(t:TypeId)(x y:Operand)(u:TypeId):step1 C P env (.binOp op t x y u) H=mkSR true ((ev env x).cond∧(ev env y).cond) (aBin P op t (ev env x).val (ev env y).val H) H:=zZ rfl (by simp [Op.operands,needs]) rfl
theorem step1_un(op:UnOp)(t:TypeId)(x:Operand):step1 C P env (.unOp op t x) H=mkSR true (ev env x).cond (aUn op (ev env x).val H) H:=zZ rfl (by simp [Op.operands,needs]) rfl
theorem zkp(s d:TypeId)(x:Operand):step1 C P env (.convert s d x) H=mkSR false (ev env x).cond (zdn P s d (ev env x).val H) H:=zZ rfl (by simp [Op.operands,needs]) rfl
theorem zoM(t:TypeId)(x:Operand):step1 C P env (.makeInterface t x) H=mkSR true (ev env x).cond (za1 P t (ev env x).val H) H:=zZ rfl (by simp [Op.operands,needs]) rfl
theorem ziK(f:FuncId)(caps:List Operand):step1 C P env (.makeFunc (.func f) #[] ⟨caps⟩) H=mkSR true (needs (caps.map (ev env))) (.val H (.fn f (caps.map (rho env)))) H:=zZ rfl (by simp [Op.operands]) rfl
theorem zhv(t:TypeId)(l c:Operand):step1 C P env (.makeSlice t l c) H=mkSR false ((ev env l).cond∧(ev env c).cond) (zaH P t (ev env l).val (ev env c).val H) H:=zZ rfl (by simp [Op.operands,needs]) rfl
theorem zkl(t:TypeId)(x l:Operand):step1 C P env (.slice t x (some l) none none) H=mkSR true ((ev env x).cond∧(ev env l).cond) (za3 P t (ev env x).val (some (ev env l).val) none none H) H:=zZ rfl (by simp [Op.operands,needs]) rfl
theorem zkm(t:TypeId)(x h:Operand):step1 C P env (.slice t x none (some h) none) H=mkSR true ((ev env x).cond∧(ev env h).cond) (za3 P t (ev env x).val none (some (ev env h).val) none H) H:=zZ rfl (by simp [Op.operands,needs]) rfl
theorem zkk(t:TypeId)(x l h:Operand):step1 C P env (.slice t x (some l) (some h) none) H=mkSR true ((ev env x).cond∧(ev env l).cond∧(ev env h).cond) (za3 P t (ev env x).val (some (ev env l).val) (some (ev env h).val) none H) H:=zZ rfl (by simp [Op.operands,needs]) rfl
theorem zhy(t:TypeId)(x:Operand)(f:Nat):step1 C P env (.fieldAddr t x f) H=mkSR true (ev env x).cond (zaz P t (ev env x).val f H) H:=zZ rfl (by simp [Op.operands,needs]) rfl
theorem zhx(t:TypeId)(x i:Operand):step1 C P env (.indexAddr t x i) H=mkSR true ((ev env x).cond∧(ev env i).cond) (zai P t (ev env x).val (ev env i).val H) H:=zZ rfl (by simp [Op.operands,needs]) rfl
theorem zoL(t:TypeId)(x i:Operand):step1 C P env (.index t x i) H=mkSR true ((ev env x).cond∧(ev env i).cond) (zc4 P t (ev env x).val (ev env i).val H) H:=zZ rfl (by simp [Op.operands,needs]) rfl
theorem zko(x:Operand)(i:Nat):step1 C P env (.extract x i) H=mkSR true (ev env x).cond (zbj (ev env x).val i H) H:=zZ rfl (by simp [Op.operands,needs]) rfl
theorem zwP(t:TypeId)(x:Operand):step1 C P env (.call { callee:=.builtin .len,args:=⟨[x]⟩,argTypes:=⟨[t]⟩ }) H=mkSR true (ev env x).cond (aLen P t (ev env x).val H) H:=zZ rfl (by simp [Op.operands,Call.operands,needs]) rfl
theorem zmk(t u:TypeId)(x y:Operand):step1 C P env (.call { callee:=.builtin .append,args:=⟨[x,y]⟩,argTypes:=⟨[t,u]⟩ }) H=mkSR false ((ev env x).cond∧(ev env y).cond) (zcO P t u (ev env x).val (ev env y).val H) H:=zZ rfl (by simp [Op.operands,Call.operands,needs]) rfl
theorem zwO(x y:Operand)(ts:Array TypeId):step1 C P env (.call { callee:=.builtin .max,args:=⟨[x,y]⟩,argTypes:=ts }) H=mkSR true ((ev env x).cond∧(ev env y).cond) (aMax (ev env x).val (ev env y).val true H) H:=zZ rfl (by simp [Op.operands,Call.operands,needs]) rfl
def zbV(env:Env):List (Nat×Operand)→List (Nat×V)
 |[]=>[]
 |(i,x)::r=>(i,(ev env x).val)::zbV env r
theorem ztH:zbV env []=[]:=rfl
theorem zpc(i:Nat)(x:Operand)(r:List (Nat×Operand)):zbV env ((i,x)::r)=(i,(ev env x).val)::zbV env r:=rfl
theorem zdg:∀ ps:List (Nat×Operand),ps.map (fun p=>(p.1,rho env p.2))=zbV env ps
 |[]=>rfl
 |(i,x)::r=>by rw [YM,zdg r];rfl
def zhW(env:Env):List (Nat×Operand)→Prop
 |[]=>True
 |(_,x)::r=>(ev env x).cond∧zhW env r
theorem ztU:zhW env []=True:=rfl
theorem zpo(i:Nat)(x:Operand)(r:List (Nat×Operand)):zhW env ((i,x)::r)=((ev env x).cond∧zhW env r):=rfl
theorem zhV:∀ ps:List (Nat×Operand),needs ((ps.map (·.2)).map (ev env))↔zhW env ps
 |[]=>Iff.rfl
 |_::r=>and_congr Iff.rfl (zhV r)
theorem zoO(t:TypeId)(ps:List (Nat×Operand)):step1 C P env (.build t ⟨ps⟩) H=mkSR true (zhW env ps) (zc5 P t (zbV env ps) H) H:=
 zZ rfl (by rw [←zhV];simp [Op.operands]) (by rw [←zdg];rfl)
theorem zgG(t:TypeId)(n:Nat)(ps:List (Nat×Operand)):step1 C P env (.buildSlice t n ⟨ps⟩) H=mkSR false (zhW env ps) (zV P t n (zbV env ps) H) H:=
 zZ rfl (by rw [←zhV];simp [Op.operands]) (by rw [←zdg];rfl)
theorem zoK(x:Operand):step1 C P env (.panic x) H=match (ev env x).val with| .ifc t v=>.pan (ev env x).cond (.ifc t v) []|_=>.bad:=rfl
def vals(env:Env):List Operand→List V
 |[]=>[]
 |x::r=>(ev env x).val::vals env r
theorem vals_nil:vals env []=[]:=rfl
theorem zwq(x:Operand)(r:List Operand):vals env (x::r)=(ev env x).val::vals env r:=rfl
theorem vals_eq:∀ xs:List Operand,xs.map (rho env)=vals env xs
 |[]=>rfl
 |x::r=>by rw [YM,vals_eq r];rfl
def conds(env:Env):List Operand→Prop
 |[]=>True
 |x::r=>(ev env x).cond∧conds env r
theorem zzM:conds env []=True:=rfl
theorem zva(x:Operand)(r:List Operand):conds env (x::r)=((ev env x).cond∧conds env r):=rfl
theorem zlC:∀ xs:List Operand,needs (xs.map (ev env))=conds env xs
 |[]=>rfl
 |x::r=>by rw [YM,ztT,zlC r];rfl
theorem zhw(f:FuncId)(caps:List Operand):step1 C P env (.makeFunc (.func f) ⟨[]⟩ ⟨caps⟩) H=mkSR true (conds env caps) (.val H (.fn f (vals env caps))) H:=by rw [←vals_eq, ←zlC];exact ziK f caps
def callF(C:Cfg)(v:V)(as:List V)(nd:Prop)(H:Hp):SR:=
 match v with
 | .fn f caps=>zcx C f (as++caps) nd H
 | .bnd f fs=>zcx C f (fs++as) nd H
 |_=>.bad
theorem callF_fn(f:FuncId)(caps as:List V)(nd:Prop):callF C (.fn f caps) as nd H=zcx C f (as++caps) nd H:=rfl
theorem zsZ(f:Operand)(args:List Operand)(ts:Array TypeId):step1 C P env (.call { callee:=.value f,args:=⟨args⟩,argTypes:=ts }) H=
 callF C (ev env f).val (vals env args) ((ev env f).cond∧conds env args) H:=by
 rw [←vals_eq, ←zlC];rfl
def znI(o:Option PR)(C:Cfg)(f:FuncId)(as:List V)(nd:Prop)(H:Hp):SR:=
 match o with
 |some (.ret v)=>.ok true nd v H ⟨[],[],0,0⟩
 |some (.panic v)=>.pan nd v []
 |none=>
  match C.Δ f as H with
  |some r=>mkSR false nd r H
  |none=>.bad
def nzs:List V→List V
 |[]=>[]
 |v::r=>nz v::nzs r
theorem nzs_nil:nzs []=[]:=rfl
theorem nzs_cons(v:V)(r:List V):nzs (v::r)=nz v::nzs r:=rfl
theorem nzs_eq:∀ as:List V,as.map nz=nzs as
 |[]=>rfl
 |v::r=>by rw [YM,nzs_eq r];rfl
theorem nz_bool(b:Bool):nz (.bool b)=.bool b:=rfl
theorem nz_int(k:IntKind)(n:Int):nz (.int k n)=.int k n:=rfl
theorem nz_str(l:List UInt8):nz (.str l)=.str l:=rfl
theorem nz_nilS:nz .nilS=.fs [] 0:=rfl
theorem nz_sl(b o l s:Nat)(k:Option Nat):nz (.sl b o l s k)=.sl b o l s k:=rfl
theorem nz_fs(cs:List V)(n:Nat):nz (.fs cs n)=.fs cs n:=rfl
theorem nz_nilP:nz .nilP=.nilP:=rfl
theorem nz_ptr(b o:Nat):nz (.ptr b o)=.ptr b o:=rfl
theorem nz_fp(cs:List V):nz (.fp cs)=.fp cs:=rfl
theorem nz_nilM:nz .nilM=.nilM:=rfl
theorem nz_map(b:Nat):nz (.map b)=.map b:=rfl
theorem nz_fn(f:FuncId)(cs:List V):nz (.fn f cs)=.fn f cs:=rfl
theorem nz_nilF:nz .nilF=.nilF:=rfl
theorem nz_ifc(t:TypeId)(v:V):nz (.ifc t v)=.ifc t v:=rfl
theorem nz_nilI:nz .nilI=.nilI:=rfl
theorem nz_agg(cs:List V):nz (.agg cs)=.agg cs:=rfl
theorem nz_tup(cs:List V):nz (.tup cs)=.tup cs:=rfl
theorem nz_any:nz .any=.any:=rfl
def zp9(b:Bool)(C:Cfg)(f:FuncId)(as:List V)(nd:Prop)(H:Hp):SR:=
 match b with
 |true=>znI (C.Γ f (nzs as)) C f as nd H
 |false=>
  match C.Δ f as H with
  |some r=>mkSR false nd r H
  |none=>
   match C.Γ f (as.map (lend H))with
   |some (.ret v)=>.ok true (nd∧zaA v=true) v H ⟨zco as,[],0,0⟩
   |some (.panic v)=>.pan (nd∧zaA v=true) v (zco as)
   |none=>.bad
theorem call1_eq(f:FuncId)(as:List V)(nd:Prop):zcx C f as nd H=zp9 (zco as).isEmpty C f as nd H:=by
 unfold zcx zp9;cases (zco as).isEmpty with
 |true=>rw [Yf rfl, ←nzs_eq];unfold znI mkSR;rfl
 |false=>rw [Yd (by simp)];rfl
theorem zvn(f:FuncId)(as:List V)(nd:Prop):zp9 true C f as nd H=znI (C.Γ f (nzs as)) C f as nd H:=rfl
@[congr] theorem callE_congr {b b':Bool}{f:FuncId}{as:List V}{nd:Prop}(h:b=b'):zp9 b C f as nd H=zp9 b' C f as nd H:=by rw [h]
theorem lend_sl(b off len sz:Nat)(kc:Option Nat):lend H (.sl b off len sz kc)=zt8 (H.get b) b off len sz kc:=rfl
theorem zt7(cs:List V)(b off len sz:Nat)(kc:Option Nat):zt8 (some (.cells cs)) b off len sz kc=if off+len*sz≤cs.length then .fs ((cs.drop off).take (len*sz)) len else .sl b off len sz kc:=rfl
theorem zyB(b:Bool):lend H (.bool b)=.bool b:=rfl
theorem lend_int(k:IntKind)(n:Int):lend H (.int k n)=.int k n:=rfl
theorem lend_str(l:List UInt8):lend H (.str l)=.str l:=rfl
theorem zyz:lend H .nilS=.fs [] 0:=rfl
theorem lend_fs(cs:List V)(n:Nat):lend H (.fs cs n)=.fs cs n:=rfl
theorem zyA:lend H .nilP=.nilP:=rfl
theorem lend_ptr(b o:Nat):lend H (.ptr b o)=zue (H.get b) b o:=rfl
theorem zua(cs:List V)(b off:Nat):zue (some (.cells cs)) b off=.fp (cs.drop off):=rfl
theorem lend_fp(cs:List V):lend H (.fp cs)=.fp cs:=rfl
theorem lend_map(b:Nat):lend H (.map b)=.map b:=rfl
def zjG(H:Hp):List V→List V
 |[]=>[]
 |v::r=>zeL H v::zjG H r
theorem zt5:zjG H []=[]:=rfl
theorem zpt(v:V)(r:List V):zjG H (v::r)=zeL H v::zjG H r:=rfl
theorem zm1:∀ vs:List V,vs.map (zeL H)=zjG H vs
 |[]=>rfl
 |v::r=>by rw [YM,zm1 r];rfl
theorem lend_fn(f:FuncId)(cs:List V):lend H (.fn f cs)=.fn f (zjG H cs):=by rw [←zm1];rfl
theorem lend0_sl(b off len sz:Nat)(kc:Option Nat):zeL H (.sl b off len sz kc)=zt8 (H.get b) b off len sz kc:=rfl
theorem zyE(b o:Nat):zeL H (.ptr b o)=zue (H.get b) b o:=rfl
theorem zug(b:Bool):zeL H (.bool b)=.bool b:=rfl
theorem zyF(k:IntKind)(n:Int):zeL H (.int k n)=.int k n:=rfl
theorem zyD(l:List UInt8):zeL H (.str l)=.str l:=rfl
theorem lend0_fs(cs:List V)(n:Nat):zeL H (.fs cs n)=.fs cs n:=rfl
theorem lend0_fp(cs:List V):zeL H (.fp cs)=.fp cs:=rfl
theorem ztx(b:Bool):zd8 (.bool b)=[]:=rfl
theorem zxq(k:IntKind)(n:Int):zd8 (.int k n)=[]:=rfl
theorem zxo(l:List UInt8):zd8 (.str l)=[]:=rfl
theorem refs1_fs(cs:List V)(n:Nat):zd8 (.fs cs n)=[]:=rfl
theorem refs1_fp(cs:List V):zd8 (.fp cs)=[]:=rfl
theorem ztv:zd8 .nilS=[]:=rfl
theorem ztw:zd8 .nilP=[]:=rfl
theorem refs1_sl(b off len sz:Nat)(kc:Option Nat):zd8 (.sl b off len sz kc)=[b]:=rfl
theorem zxp(b o:Nat):zd8 (.ptr b o)=[b]:=rfl
def zo2:List V→List Nat
 |[]=>[]
 |v::r=>zdZ v++zo2 r
theorem zxn:zo2 []=[]:=rfl
theorem ztu(v:V)(r:List V):zo2 (v::r)=zdZ v++zo2 r:=rfl
theorem zkD:∀ vs:List V,vs.flatMap zdZ=zo2 vs
 |[]=>rfl
 |v::r=>by rw [List.flatMap_cons,zkD r];rfl
theorem refs1_fn(f:FuncId)(cs:List V):zd8 (.fn f cs)=zo2 cs:=by rw [←zkD];rfl
theorem zxr(cs:List V):zd8 (.agg cs)=zo2 cs:=by rw [←zkD];rfl
theorem refs0_sl(b off len sz:Nat)(kc:Option Nat):zdZ (.sl b off len sz kc)=[b]:=rfl
theorem zxt(b o:Nat):zdZ (.ptr b o)=[b]:=rfl
theorem zxu(k:IntKind)(n:Int):zdZ (.int k n)=[]:=rfl
theorem zxs(l:List UInt8):zdZ (.str l)=[]:=rfl
theorem ztA(b:Bool):zdZ (.bool b)=[]:=rfl
theorem refs0_fs(cs:List V)(n:Nat):zdZ (.fs cs n)=[]:=rfl
theorem refs0_fp(cs:List V):zdZ (.fp cs)=[]:=rfl
theorem zyC:zco []=[]:=rfl
theorem zt9(v:V)(r:List V):zco (v::r)=zd8 v++zco r:=rfl
theorem zoT(b:Bool):zaA (.bool b)=true:=rfl
theorem scalar_int(k:IntKind)(n:Int):zaA (.int k n)=true:=rfl
theorem ztc(l:List UInt8):zaA (.str l)=true:=rfl
theorem ztb(vs:List V):zaA (.tup vs)=vs.all zfb:=rfl
theorem zte(vs:List V):zaA (.agg vs)=vs.all zfb:=rfl
theorem ztd(t:TypeId)(v:V):zaA (.ifc t v)=zfb v:=rfl
theorem zBG:([]:List V).all zfb=true:=rfl
theorem zvV(v:V)(r:List V):(v::r).all zfb=(zfb v&&r.all zfb):=rfl
theorem zBH(b:Bool):zfb (.bool b)=true:=rfl
theorem atom_int(k:IntKind)(n:Int):zfb (.int k n)=true:=rfl
theorem atom_str(l:List UInt8):zfb (.str l)=true:=rfl
theorem lend_ifc(t:TypeId)(v:V):lend H (.ifc t v)=.ifc t v:=rfl
theorem zuf:zeL H .nilS=.fs [] 0:=rfl
theorem ztz:zdZ .nilS=[]:=rfl
theorem zz4(v:V)(f:FuncId)(as:List V)(nd:Prop):znI (some (.ret v)) C f as nd H=.ok true nd v H ⟨[],[],0,0⟩:=rfl
theorem zz5(v:V)(f:FuncId)(as:List V)(nd:Prop):znI (some (.panic v)) C f as nd H=.pan nd v []:=rfl
@[congr] theorem callG_congr {o o':Option PR}{f:FuncId}{as:List V}{nd:Prop}(h:o=o'):znI o C f as nd H=znI o' C f as nd H:=by rw [h]
def callM(o:Option AR)(nd:Prop)(H:Hp):SR:=match o with|some r=>mkSR false nd r H|none=>.bad
theorem zvm(f:FuncId)(as:List V)(nd:Prop):znI none C f as nd H=callM (C.Δ f as H) nd H:=rfl
theorem zvk(r:AR)(nd:Prop):callM (some r) nd H=mkSR false nd r H:=rfl
def zqa(o:Option AR)(C:Cfg)(f:FuncId)(as:List V)(nd:Prop)(H:Hp):SR:=
 match o with
 |some r=>mkSR false nd r H
 |none=>
  match C.Γ f (as.map (lend H))with
  |some (.ret v)=>.ok true (nd∧zaA v=true) v H ⟨zco as,[],0,0⟩
  |some (.panic v)=>.pan (nd∧zaA v=true) v (zco as)
  |none=>.bad
theorem zp8(f:FuncId)(as:List V)(nd:Prop):zp9 false C f as nd H=zqa (C.Δ f as H) C f as nd H:=by unfold zp9 zqa;rfl
@[congr] theorem callD_congr {o o':Option AR}{f:FuncId}{as:List V}{nd:Prop}(h:o=o'):zqa o C f as nd H=zqa o' C f as nd H:=by rw [h]
theorem zvo(r:AR)(f:FuncId)(as:List V)(nd:Prop):zqa (some r) C f as nd H=mkSR false nd r H:=rfl
def zvl(o:Option PR)(as:List V)(nd:Prop)(H:Hp):SR:=
 match o with
 |some (.ret v)=>.ok true (nd∧zaA v=true) v H ⟨zco as,[],0,0⟩
 |some (.panic v)=>.pan (nd∧zaA v=true) v (zco as)
 |none=>.bad
def zt6(H:Hp):List V→List V
 |[]=>[]
 |v::r=>lend H v::zt6 H r
theorem zyy:zt6 H []=[]:=rfl
theorem zt4(v:V)(r:List V):zt6 H (v::r)=lend H v::zt6 H r:=rfl
theorem zru:∀ as:List V,as.map (lend H)=zt6 H as
 |[]=>rfl
 |v::r=>by rw [YM,zru r];rfl
theorem zvp(f:FuncId)(as:List V)(nd:Prop):zqa none C f as nd H=zvl (C.Γ f (zt6 H as)) as nd H:=by rw [←zru];unfold zqa zvl;rfl
@[congr] theorem callL_congr {o o':Option PR}{as:List V}{nd:Prop}(h:o=o'):zvl o as nd H=zvl o' as nd H:=by rw [h]
theorem zz2(v:V)(as:List V)(nd:Prop):zvl (some (.ret v)) as nd H=.ok true (nd∧zaA v=true) v H ⟨zco as,[],0,0⟩:=rfl
theorem zz3(v:V)(as:List V)(nd:Prop):zvl (some (.panic v)) as nd H=.pan (nd∧zaA v=true) v (zco as):=rfl
def extΓ(f0:FuncId)(c:List V→Option PR)(Γ:FuncId→List V→Option PR):FuncId→List V→Option PR:=fun f as=>bif f==f0 then c as else Γ f as
def noΓ:FuncId→List V→Option PR:=fun _ _=>none
def zcR(f0:FuncId)(c:List V→Hp→Option AR)(Δ:FuncId→List V→Hp→Option AR):FuncId→List V→Hp→Option AR:=fun f as H=>bif f==f0 then c as H else Δ f as H
def noΔ:FuncId→List V→Hp→Option AR:=fun _ _ _=>none
theorem zrH(f0:FuncId)(c:List V→Option PR)(Γ:FuncId→List V→Option PR)(f:FuncId)(as:List V):extΓ f0 c Γ f as=bif f==f0 then c as else Γ f as:=rfl
theorem noΓ_at(f:FuncId)(as:List V):noΓ f as=none:=rfl
theorem zrG(f0:FuncId)(c:List V→Hp→Option AR)(Δ:FuncId→List V→Hp→Option AR)(f:FuncId)(as:List V)(H:Hp):zcR f0 c Δ f as H=bif f==f0 then c as H else Δ f as H:=rfl
theorem noΔ_at(f:FuncId)(as:List V)(H:Hp):noΔ f as H=none:=rfl
def zdo(P:Program)(Γ:FuncId→List V→Option PR):Prop:=∀ f args r,Γ f args=some r→PCall P f args r
def zba(P:Program)(Δ:FuncId→List V→Hp→Option AR):Prop:=∀ f args H r,Δ f args H=some r→HCall P f args H r
theorem zh:zdo P noΓ:=fun _ _ _ h=>by cases h
theorem zg:zba P noΔ:=fun _ _ _ _ h=>by cases h
theorem zf {f0:FuncId}{c:List V→Option PR}{Γ:FuncId→List V→Option PR}(h:∀ args r,c args=some r→PCall P f0 args r)(hΓ:zdo P Γ):zdo P (extΓ f0 c Γ):=fun f args r e=>by
 rw [zrH]at e;cases hb:f==f0 with
 |true=>rw [hb]at e;simp at hb;subst hb;exact h _ _ e
 |false=>rw [hb]at e;exact hΓ _ _ _ e
theorem zay {f0:FuncId}{c:List V→Hp→Option AR}{Δ:FuncId→List V→Hp→Option AR}(h:∀ args H r,c args H=some r→HCall P f0 args H r)(hΔ:zba P Δ):zba P (zcR f0 c Δ):=fun f args H r e=>by
 rw [zrG]at e;cases hb:f==f0 with
 |true=>rw [hb]at e;simp at hb;subst hb;exact h _ _ _ e
 |false=>rw [hb]at e;exact hΔ _ _ _ _ e
end Go.Ab
