/- How simp is to walk: small rewrite rules, one an operation; what is looked into first, what is left alone. -/
import Derived.Test.YtfilkkmcagndlaaGreatDoorAbCall
import Derived.Tactics
set_option linter.all false
namespace Go.Ab
variable {C:Cfg}{P:Program}
def zea:Env→Nat→V
 |[],_=>.any
 |(k,v)::r,t=>bif t==k then v else zea r t
theorem zxw(t:Nat):zea [] t=.any:=rfl
theorem zjK(k:Nat)(v:V)(r:Env)(t:Nat):zea ((k,v)::r) t=bif t==k then v else zea r t:=rfl
theorem zdN:∀(env:Env) (t:Nat),(env.lookup t).getD .any=zea env t
 |[],_=>rfl
 |(k,v)::r,t=>by rw [List.lookup_cons,zjK, ←zdN r t];cases t==k<;>rfl
theorem ev_tmp(env:Env)(t:Nat):ev env (.tmp t)=zea env t:=zdN env t
theorem ev_const(env:Env)(v:Value):ev env (.const v)=cv v:=rfl
theorem ev_func(env:Env)(f:FuncId):ev env (.func f)=.fn f []:=rfl
theorem zyo(env:Env)(k:Nat):ev env (.global k)=(match GL k with|some cs=>.fp cs|none=>.any):=rfl
theorem cv_bool(b:Bool):cv (.bool b)=.bool b:=rfl
theorem cv_int(k:IntKind)(n:Int):cv (.int k n)=.int k n:=rfl
theorem cv_str(l:List UInt8):cv (.string ⟨l.toArray⟩)=.str l:=rfl
theorem cv_nilS:cv (.slice none 0 0)=.nilS:=rfl
theorem cv_nilP:cv (.pointer none)=.nilP:=rfl
theorem cv_nilM:cv (.map none)=.nilM:=rfl
theorem cv_nilF:cv .nilFunc=.nilF:=rfl
theorem cv_nilI:cv .nilIface=.nilI:=rfl
theorem cv_agg(cs:List Value):cv (.agg cs.toArray)=.agg (cs.map cv1):=rfl
theorem cv_tup(cs:List Value):cv (.tuple cs.toArray)=.tup (cs.map cv1):=rfl
theorem cv1_bool(b:Bool):cv1 (.bool b)=.bool b:=rfl
theorem cv1_int(k:IntKind)(n:Int):cv1 (.int k n)=.int k n:=rfl
theorem cv1_str(l:List UInt8):cv1 (.string ⟨l.toArray⟩)=.str l:=rfl
theorem cv1_nilS:cv1 (.slice none 0 0)=.nilS:=rfl
theorem cv1_nilP:cv1 (.pointer none)=.nilP:=rfl
theorem cv1_nilM:cv1 (.map none)=.nilM:=rfl
theorem cv1_nilF:cv1 .nilFunc=.nilF:=rfl
theorem cv1_nilI:cv1 .nilIface=.nilI:=rfl
theorem vc_bool(b:Bool):V.cond (.bool b)=True:=rfl
theorem vc_int(k:IntKind)(n:Int):V.cond (.int k n)=True:=rfl
theorem vc_str(l:List UInt8):V.cond (.str l)=True:=rfl
theorem vc_nilS:V.cond .nilS=True:=rfl
theorem vc_sl(b o l s:Nat)(k:Option Nat):V.cond (.sl b o l s k)=True:=rfl
theorem vc_fs(cs:List V)(n:Nat):V.cond (.fs cs n)=True:=rfl
theorem vc_nilP:V.cond .nilP=True:=rfl
theorem vc_ptr(b o:Nat):V.cond (.ptr b o)=True:=rfl
theorem vc_fp(cs:List V):V.cond (.fp cs)=True:=rfl
theorem vc_nilM:V.cond .nilM=True:=rfl
theorem vc_map(b:Nat):V.cond (.map b)=True:=rfl
theorem vc_fn(f:FuncId)(cs:List V):V.cond (.fn f cs)=True:=rfl
theorem vc_nilF:V.cond .nilF=True:=rfl
theorem vc_ifc(t:TypeId)(v:V):V.cond (.ifc t v)=True:=rfl
theorem vc_nilI:V.cond .nilI=True:=rfl
theorem vc_agg(cs:List V):V.cond (.agg cs)=True:=rfl
theorem vc_tup(cs:List V):V.cond (.tup cs)=True:=rfl
theorem vc_any:V.cond .any=True:=rfl
theorem vc_opt(b:Bool)(v:V):V.cond (.opt b v)=(b=true):=rfl
theorem vv_bool(b:Bool):V.val (.bool b)=.bool b:=rfl
theorem vv_int(k:IntKind)(n:Int):V.val (.int k n)=.int k n:=rfl
theorem vv_str(l:List UInt8):V.val (.str l)=.str l:=rfl
theorem vv_nilS:V.val .nilS=.nilS:=rfl
theorem vv_sl(b o l s:Nat)(k:Option Nat):V.val (.sl b o l s k)=.sl b o l s k:=rfl
theorem vv_fs(cs:List V)(n:Nat):V.val (.fs cs n)=.fs cs n:=rfl
theorem vv_nilP:V.val .nilP=.nilP:=rfl
theorem vv_ptr(b o:Nat):V.val (.ptr b o)=.ptr b o:=rfl
theorem vv_fp(cs:List V):V.val (.fp cs)=.fp cs:=rfl
theorem vv_nilM:V.val .nilM=.nilM:=rfl
theorem vv_map(b:Nat):V.val (.map b)=.map b:=rfl
theorem vv_fn(f:FuncId)(cs:List V):V.val (.fn f cs)=.fn f cs:=rfl
theorem vv_nilF:V.val .nilF=.nilF:=rfl
theorem vv_ifc(t:TypeId)(v:V):V.val (.ifc t v)=.ifc t v:=rfl
theorem vv_nilI:V.val .nilI=.nilI:=rfl
theorem vv_agg(cs:List V):V.val (.agg cs)=.agg cs:=rfl
theorem vv_tup(cs:List V):V.val (.tup cs)=.tup cs:=rfl
theorem vv_any:V.val .any=.any:=rfl
theorem vv_opt(b:Bool)(v:V):V.val (.opt b v)=v:=rfl
def delE(t:Nat)(env:Env):Env:=env.filter fun p=>p.1 != t
theorem delE_nil(t:Nat):delE t []=[]:=rfl
theorem zyE(t k:Nat)(v:V)(r:Env):delE t ((k,v)::r)=bif k==t then delE t r else(k,v)::delE t r:=by
 unfold delE;rw [List.filter_cons];by_cases h:k=t
 ·subst h;simp
 ·have h1:(k==t)=false:=by simp [h]
  have h2:(k != t)=true:=by simp [h]
  simp [h1];intro e;exact absurd e h
theorem zvz(keep:Nat→Bool):zcG keep []=[]:=rfl
theorem zsf(keep:Nat→Bool)(t:Nat)(v:V)(r:Env):zcG keep ((t,v)::r)=bif keep t then(t,v)::delE t (zcG keep r)else zcG keep r:=by rw [zcG];cases keep t<;>rfl
def zbC:List Nat→Nat→Bool
 |[],_=>false
 |k::r,t=>(t==k)||zbC r t
theorem zxQ(t:Nat):zbC [] t=false:=rfl
theorem ztA(k:Nat)(r:List Nat)(t:Nat):zbC (k::r) t=((t==k)||zbC r t):=rfl
theorem trim_mk(keep:Nat→Bool)(env:Env)(h:Hp):St.trim ⟨env,h⟩ keep=⟨zcG keep env,h⟩:=rfl
def zaM:List (Nat×Blk)→Nat→Option Blk
 |[],_=>none
 |(k,x)::r,b=>bif b==k then some x else zaM r b
theorem zxx(b:Nat):zaM [] b=none:=rfl
theorem zjL(k:Nat)(x:Blk)(r:List (Nat×Blk))(b:Nat):zaM ((k,x)::r) b=bif b==k then some x else zaM r b:=rfl
theorem zaP:∀(bs:List (Nat×Blk)) (b:Nat),bs.lookup b=zaM bs b
 |[],_=>rfl
 |(k,v)::r,b=>by rw [List.lookup_cons,zjL, ←zaP r b];cases b==k<;>rfl
theorem zd7(bs:List (Nat×Blk))(n b:Nat):Hp.get ⟨bs,n⟩ b=zaM bs b:=zaP bs b
def putB:List (Nat×Blk)→Nat→Blk→List (Nat×Blk)
 |[],_,_=>[]
 |(k,y)::r,b,x=>(bif k==b then(k,x)else(k,y))::putB r b x
theorem putB_nil(b:Nat)(x:Blk):putB [] b x=[]:=rfl
theorem zmE(k:Nat)(y:Blk)(r:List (Nat×Blk))(b:Nat)(x:Blk):putB ((k,y)::r) b x=(bif k==b then(k,x)else(k,y))::putB r b x:=rfl
theorem zwy:∀(bs:List (Nat×Blk)) (b:Nat) (x:Blk),(bs.map fun p=>if p.1==b then(p.1,x)else p)=putB bs b x
 |[],_,_=>rfl
 |(k,v)::r,b,x=>by rw [List.map_cons,zmE,zwy r b x];cases h:k==b<;>simp_all
theorem put_mk(bs:List (Nat×Blk))(n b:Nat)(x:Blk):Hp.put ⟨bs,n⟩ b x=⟨putB bs b x,n⟩:=by rw [←zwy];rfl
def zll:List (Nat×Blk)→Nat→List (Nat×Blk)
 |[],_=>[]
 |(k,y)::r,b=>bif k==b then zll r b else(k,y)::zll r b
theorem zxO(b:Nat):zll [] b=[]:=rfl
theorem zjO(k:Nat)(y:Blk)(r:List (Nat×Blk))(b:Nat):zll ((k,y)::r) b=bif k==b then zll r b else(k,y)::zll r b:=rfl
theorem zra:∀(bs:List (Nat×Blk)) (b:Nat),(bs.filter fun p=>p.1 != b)=zll bs b
 |[],_=>rfl
 |(k,v)::r,b=>by rw [List.filter_cons,zjO, ←zra r b];cases h:k==b<;>simp_all
theorem zxN(bs:List (Nat×Blk))(n b:Nat):Hp.kill ⟨bs,n⟩ b=⟨zll bs b,n⟩:=by rw [←zra];rfl
theorem new_mk(bs:List (Nat×Blk))(n:Nat)(x:Blk):Hp.new ⟨bs,n⟩ x=⟨(n,x)::bs,n+1⟩:=rfl
inductive Fr where
 |seq (y:Code)
 |sem (y:Code)
 |block (id:Nat)
def unst(C:Cfg)(P:Program)(K:Out→St→Prop):List Fr→Out→St→Prop
 |[]=>K
 | .seq y::st=>zgX (fun s=>AXf C P y s (unst C P K st)) (unst C P K st)
 | .sem y::st=>zgX (fun s=>AX C P y s (unst C P K st)) (unst C P K st)
 | .block i::st=>zrX i (unst C P K st)
theorem zb6(K:Out→St→Prop)(v:V)(s:St):∀ st,unst C P K st (.panic v) s=K (.panic v) s
 |[]=>rfl
 | .seq _::st=>zb6 K v s st
 | .sem _::st=>zb6 K v s st
 | .block _::st=>zb6 K v s st
def AXs(C:Cfg)(P:Program)(K:Out→St→Prop)(st:List Fr)(c:Code)(env:Env)(h:Hp):Prop:=AXf C P c ⟨env,h⟩ (unst C P K st)
def AXc(C:Cfg)(P:Program)(K:Out→St→Prop)(st:List Fr)(x y:Code)(b:V)(env:Env)(h:Hp):Prop:=
 match b with
 | .bool b=>if b=true then AXs C P K st x env h else AXs C P K st y env h
 |_=>False
def AXt(C:Cfg)(P:Program)(K:Out→St→Prop)(st:List Fr)(env:Env)(h:Hp):Prop:=AXs C P K st .skip env h
def AXr(C:Cfg)(P:Program)(K:Out→St→Prop)(st:List Fr)(ops:Array Oper)(os:List Oper)(env:Env)(h:Hp):Prop:=ARun C P ops os ⟨env,h⟩ (zb3 C.keep (unst C P K st))
def AXf1(C:Cfg)(P:Program)(K:Out→St→Prop)(st:List Fr)(ops:Array Oper)(os:List Oper)(d:Option Tmp)(r:SR)(env:Env)(h:Hp):Prop:=
 fol C r (fun v h' _=>ARun C P ops os (((⟨env,h⟩:St).put d v).hp h') (zb3 C.keep (unst C P K st))) (fun v=>zb3 C.keep (unst C P K st) (.panic v) ⟨env,h⟩)
def AXg1(C:Cfg)(P:Program)(K:Out→St→Prop)(st:List Fr)(ops:Array Oper)(os:List Oper)(d:Option Tmp)(gb:Option Bool)(r:SR)(env:Env)(h:Hp):Prop:=
 match gb with
 |some gb=>folG C gb r h (fun v h' _=>ARun C P ops os (((⟨env,h⟩:St).put d v).hp h') (zb3 C.keep (unst C P K st))) (fun v=>zb3 C.keep (unst C P K st) (.panic v) ⟨env,h⟩)
 |none=>False
def AXd(C:Cfg)(P:Program)(K:Out→St→Prop)(st:List Fr)(ops:Array Oper)(os:List Oper)(i:Nat)(acc:List (Nat×Foot))(env:Env)(h:Hp):Prop:=DRun C P ops os i ⟨env,h⟩ acc (zb3 C.keep (unst C P K st))
def AXf2(C:Cfg)(P:Program)(K:Out→St→Prop)(st:List Fr)(ops:Array Oper)(os:List Oper)(i:Nat)(d:Option Tmp)(r:SR)(acc:List (Nat×Foot))(env:Env)(h:Hp):Prop:=
 fol C r (fun v h' f=>DRun C P ops os (i+1) (((⟨env,h⟩:St).put d v).hp h') (accF acc i f) (zb3 C.keep (unst C P K st))) (fun v=>zem ops i=true∧chk ops acc=true∧zb3 C.keep (unst C P K st) (.panic v) ⟨env,h⟩)
def AXg2(C:Cfg)(P:Program)(K:Out→St→Prop)(st:List Fr)(ops:Array Oper)(os:List Oper)(i:Nat)(d:Option Tmp)(gb:Option Bool)(r:SR)(acc:List (Nat×Foot))(env:Env)(h:Hp):Prop:=
 match gb with
 |some gb=>folG C gb r h (fun v h' f=>DRun C P ops os (i+1) (((⟨env,h⟩:St).put d v).hp h') (accF acc i f) (zb3 C.keep (unst C P K st))) (fun v=>zem ops i=true∧chk ops acc=true∧zb3 C.keep (unst C P K st) (.panic v) ⟨env,h⟩)
 |none=>False
def AXk(C:Cfg)(P:Program)(K:Out→St→Prop)(st:List Fr)(ops:Array Oper)(acc:List (Nat×Foot))(env:Env)(h:Hp):Prop:=chk ops acc=true∧AXt C P K st (zcG C.keep env) h
variable {K:Out→St→Prop}{st:List Fr}{ops:Array Oper}{os:List Oper}{env:Env}{h:Hp}
@[congr] theorem AXs_congr {c:Code}{env':Env}{h':Hp}(e:env=env')(e':h=h'):AXs C P K st c env h=AXs C P K st c env' h':=by rw [e,e']
@[congr] theorem AXc_congr {x y:Code}{b b':V}{env':Env}{h':Hp}(eb:b=b')(e:env=env')(e':h=h'):AXc C P K st x y b env h=AXc C P K st x y b' env' h':=by rw [eb,e,e']
@[congr] theorem AXt_congr {env':Env}{h':Hp}(e:env=env')(e':h=h'):AXt C P K st env h=AXt C P K st env' h':=by rw [e,e']
@[congr] theorem AXf1_congr {d:Option Tmp}{r r':SR}(e:r=r'):AXf1 C P K st ops os d r env h=AXf1 C P K st ops os d r' env h:=by rw [e]
@[congr] theorem AXg1_congr {d:Option Tmp}{gb gb':Option Bool}{r r':SR}(eb:gb=gb')(e:r=r'):AXg1 C P K st ops os d gb r env h=AXg1 C P K st ops os d gb' r' env h:=by rw [e,eb]
@[congr] theorem AXf2_congr {i:Nat}{d:Option Tmp}{r r':SR}{acc:List (Nat×Foot)}(e:r=r'):AXf2 C P K st ops os i d r acc env h=AXf2 C P K st ops os i d r' acc env h:=by rw [e]
@[congr] theorem AXg2_congr {i:Nat}{d:Option Tmp}{gb gb':Option Bool}{r r':SR}{acc:List (Nat×Foot)}(eb:gb=gb')(e:r=r'):AXg2 C P K st ops os i d gb r acc env h=AXg2 C P K st ops os i d gb' r' acc env h:=by rw [e,eb]
@[congr] theorem AXk_congr {acc acc':List (Nat×Foot)}(ea:acc=acc'):AXk C P K st ops acc env h=AXk C P K st ops acc' env h:=by rw [ea]
theorem AXs.of {c:Code}{s:St}(h:AXs C P K [] c s.env s.h):AXf C P c s K:=h
def AXp(C:Cfg)(P:Program)(K:Out→St→Prop)(st:List Fr)(x y:Code)(b:Bool)(env:Env)(h:Hp):Prop:=AXs C P K ((if b=true then .sem y else .seq y)::st) x env h
theorem axs_seq(x y:Code):AXs C P K st (.seq x y) env h=AXp C P K st x y (zbt x) env h:=by unfold AXp AXs;rw [AXf];cases zbt x<;>rfl
theorem zAi(x y:Code):AXp C P K st x y false env h=AXs C P K (.seq y::st) x env h:=rfl
theorem axp_true(x y:Code):AXp C P K st x y true env h=AXs C P K (.sem y::st) x env h:=rfl
theorem zpe(x:Code):zbt (.loop x)=true:=rfl
theorem zm9(i:Nat)(x:Code):zbt (.block i x)=zbt x:=rfl
theorem ztD(x y:Code):zbt (.seq x y)=zbt y:=rfl
theorem zpg(c:Operand)(x y:Code):zbt (.cond c x y)=(zbt x||zbt y):=rfl
theorem zlo(i:Nat)(o:Array Oper)(d:Bool):zbt (.region i o d)=false:=rfl
theorem zpd:zbt .skip=false:=rfl
theorem ztE:zbt .ret=false:=rfl
theorem zpf(i:Nat):zbt (.exit i)=false:=rfl
def AXa(C:Cfg)(P:Program)(K:Out→St→Prop)(st:List Fr)(y:Code)(env:Env)(h:Hp):Prop:=AX C P y ⟨env,h⟩ (unst C P K st)
@[congr] theorem AXa_congr {c:Code}{env':Env}{h':Hp}(e:env=env')(e':h=h'):AXa C P K st c env h=AXa C P K st c env' h':=by rw [e,e']
theorem zn7(y:Code):AXs C P K (.sem y::st) .skip env h=AXa C P K st y env h:=rfl
theorem zoa(i:Nat)(y:Code):AXs C P K (.sem y::st) (.exit i) env h=AXs C P K st (.exit i) env h:=rfl
theorem zp4(y:Code):AXs C P K (.sem y::st) .ret env h=AXs C P K st .ret env h:=rfl
theorem AXa.go {y:Code}(hm:P.follows .mixedOrders=true)(hΓ:∀ f args r,C.Γ f args=some r→PCall P f args r)(hΔ:∀ f args H r,C.Δ f args H=some r→HCall P f args H r)(hok:zaz C.nt y=true)(hx:AXs C P K st y env h):AXa C P K st y env h:=
 zc9 hm ⟨hΓ,hΔ⟩ y _ _ hok hx
theorem AXa.sub {y:Code}{env':Env}{h':Hp}(hs:Sub C ⟨env,h⟩ ⟨env',h'⟩)(hx:AXa C P K st y env' h'):AXa C P K st y env h:=AX.sub hs hx
theorem AXa.freeze {y:Code}{env':Env}{h':Hp}{F:Nat→Prop}(hW:C.Wm=[])(hs:Fz C.nx F ⟨env,h⟩ ⟨env',h'⟩)(hx:AXa C P K st y env' h'):AXa C P K st y env h:=AX.freeze hW hs hx
theorem zAg(i:Nat)(x:Code):AXs C P K st (.block i x) env h=AXs C P K (.block i::st) x env h:=rfl
theorem zn6(y:Code):AXs C P K (.seq y::st) .skip env h=AXs C P K st y env h:=rfl
theorem zjf(i:Nat):AXs C P K (.block i::st) .skip env h=AXs C P K st .skip env h:=rfl
theorem zn8:AXs C P K [] .skip env h=K .norm ⟨env,h⟩:=rfl
theorem zn9(i:Nat)(y:Code):AXs C P K (.seq y::st) (.exit i) env h=AXs C P K st (.exit i) env h:=rfl
theorem zjg(i j:Nat):AXs C P K (.block j::st) (.exit i) env h=if i=j then AXs C P K st .skip env h else AXs C P K st (.exit i) env h:=rfl
theorem zob(i:Nat):AXs C P K [] (.exit i) env h=K (.exit i) ⟨env,h⟩:=rfl
theorem zp3(y:Code):AXs C P K (.seq y::st) .ret env h=AXs C P K st .ret env h:=rfl
theorem zlX(i:Nat):AXs C P K (.block i::st) .ret env h=AXs C P K st .ret env h:=rfl
theorem zp5:AXs C P K [] .ret env h=K .ret ⟨env,h⟩:=rfl
theorem axs_cond(c:Operand)(x y:Code):AXs C P K st (.cond c x y) env h=AXc C P K st x y (ev env c) env h:=by unfold AXs AXc AXf;rfl
def AXm(C:Cfg)(P:Program)(K:Out→St→Prop)(st:List Fr)(os:List Oper)(n:Option (Option Tmp×Operand×List Oper))(env:Env)(h:Hp):Prop:=ARunN C P ⟨os⟩ n ⟨env,h⟩ (zb3 C.keep (unst C P K st))
def AXw(C:Cfg)(P:Program)(K:Out→St→Prop)(st:List Fr)(ops:Array Oper)(os:List Oper)(d:Option Tmp)(c:Prop)(x:V)(env:Env)(h:Hp):Prop:=ANext C P ops os d c (zkg x h) ⟨env,h⟩ (zb3 C.keep (unst C P K st))
def AXl(C:Cfg)(P:Program)(K:Out→St→Prop)(st:List Fr)(os:List Oper)(n:Option (Nat×Op×Nat))(env:Env)(h:Hp):Prop:=DRunN C P ⟨os⟩ n ⟨env,h⟩ (zb3 C.keep (unst C P K st))
def AXe(C:Cfg)(P:Program)(K:Out→St→Prop)(st:List Fr)(ops:Array Oper)(i0:Nat)(op0:Op)(j0:Nat)(os:List Oper)(i:Nat)(acc:List (Nat×Foot))(r:Option LK)(env:Env)(h:Hp):Prop:=
 zAU C P ops i0 op0 j0 os i ⟨env,h⟩ acc r (zb3 C.keep (unst C P K st))
def lateA(b:Bool)(W:List Nat)(h' h:Hp):Prop:=match b with|true=>W=[]∧h'=h|false=>True
def lateB1(b:Bool)(C:Cfg)(P:Program)(op0:Op)(r:Option LK)(h:Hp)(f:Foot):Prop:=match b with|true=>(match r with|some r=>zrY C P op0 r h f|none=>False)|false=>True
def lateR(b:Bool)(env:Env)(h:Hp)(v:V)(f:Foot)(r:Option LK):Option LK:=match b with|true=>some ⟨⟨env,h⟩,v,f⟩|false=>r
theorem axs_run(i:Nat)(os:List Oper):AXs C P K st (.region i ⟨os⟩ false) env h=AXm C P K st os (zfF os) env h:=rfl
theorem axs_draw(i:Nat)(os:List Oper):AXs C P K st (.region i ⟨os⟩ true) env h=AXl C P K st os (zfI os) env h:=rfl
theorem axm_none:AXm C P K st os none env h=AXr C P K st ⟨os⟩ os env h:=rfl
theorem axm_some(d:Option Tmp)(it:Operand)(r:List Oper):AXm C P K st os (some (d,it,r)) env h=AXw C P K st ⟨os⟩ r d (ev env it).cond (rho env it) env h:=rfl
theorem axl_none:AXl C P K st os none env h=AXd C P K st ⟨os⟩ os 0 [] env h:=rfl
theorem axl_some(i0:Nat)(op0:Op)(j0:Nat):AXl C P K st os (some (i0,op0,j0)) env h=AXe C P K st ⟨os⟩ i0 op0 j0 os 0 [] none env h:=rfl
theorem zs7:zfF []=none:=rfl
def zW:Op→Bool
 | .next _ _=>false
 |_=>true
def nextX:=@zfF
theorem zs6(dst:Option Tmp)(it:Operand)(type:TypeId)(pos:String)(after:Array Edge)(r:List Oper):nextX ({ dst,op:=.next it false,type,pos,after,guard:=none }::r)=some (dst,it,r):=rfl
theorem zmN(a b):zW (.next a b)=false:=rfl
theorem zo3(dst:Option Tmp)(op:Op)(type:TypeId)(pos:String)(after:Array Edge)(g:Option (Nat×Bool))(r:List Oper):zfF ({ dst,op,type,pos,after,guard:=g }::r)=bif zW op then none else nextX ({ dst,op,type,pos,after,guard:=g }::r):=by
 cases h:zW op with
 |false=>rfl
 |true=>
  unfold zfF;cases op<;>first|rfl|cases h
theorem zx1(a):isEn (.move a)=false:=rfl
theorem zxW(a):isLk (.move a)=false:=rfl
theorem zmO(a):zW (.move a)=true:=rfl
theorem zpm(a):isEn (.assign a)=false:=rfl
theorem zpj(a):isLk (.assign a)=false:=rfl
theorem ziZ(a):zW (.assign a)=true:=rfl
theorem zx0(a)(b)(c):isEn (.pick a b c)=false:=rfl
theorem zxV(a)(b)(c):isLk (.pick a b c)=false:=rfl
theorem zmM(a)(b)(c):zW (.pick a b c)=true:=rfl
theorem zt2(a):isEn (.alloc a)=false:=rfl
theorem ztQ(a):isLk (.alloc a)=false:=rfl
theorem zle(a):zW (.alloc a)=true:=rfl
theorem isEn_box(a)(b):isEn (.box a b)=false:=rfl
theorem isLk_box(a)(b):isLk (.box a b)=false:=rfl
theorem zo1(a)(b):zW (.box a b)=true:=rfl
theorem zt0(a)(b):isEn (.build a b)=false:=rfl
theorem ztO(a)(b):isLk (.build a b)=false:=rfl
theorem zlc(a)(b):zW (.build a b)=true:=rfl
theorem zih(a)(b)(c):isEn (.buildSlice a b c)=false:=rfl
theorem zid(a)(b)(c):isLk (.buildSlice a b c)=false:=rfl
theorem zfE(a)(b)(c):zW (.buildSlice a b c)=true:=rfl
theorem zpl(a)(b)(c)(d):isEn (.insert a b c d)=false:=rfl
theorem zpi(a)(b)(c)(d):isLk (.insert a b c d)=false:=rfl
theorem ziY(a)(b)(c)(d):zW (.insert a b c d)=true:=rfl
theorem zx2(a)(b):isEn (.load a b)=false:=rfl
theorem zxX(a)(b):isLk (.load a b)=false:=rfl
theorem zmP(a)(b):zW (.load a b)=true:=rfl
theorem ztS(a)(b)(c):isEn (.store a b c)=false:=rfl
theorem ztG(a)(b)(c):isLk (.store a b c)=false:=rfl
theorem zk4(a)(b)(c):zW (.store a b c)=true:=rfl
theorem ztU(a):isEn (.ready a)=false:=rfl
theorem ztI(a):isLk (.ready a)=false:=rfl
theorem zk6(a):zW (.ready a)=true:=rfl
theorem ztR(a):isEn (.waits a)=false:=rfl
theorem ztF(a):isLk (.waits a)=false:=rfl
theorem zk3(a):zW (.waits a)=true:=rfl
theorem zlt(a):isEn (.nilCheck a)=false:=rfl
theorem zlp(a):isLk (.nilCheck a)=false:=rfl
theorem zgR(a):zW (.nilCheck a)=true:=rfl
theorem zt1(a)(b)(c)(d)(e):isEn (.binOp a b c d e)=false:=rfl
theorem ztP(a)(b)(c)(d)(e):isLk (.binOp a b c d e)=false:=rfl
theorem zld(a)(b)(c)(d)(e):zW (.binOp a b c d e)=true:=rfl
theorem zxZ(a)(b)(c):isEn (.unOp a b c)=false:=rfl
theorem zxU(a)(b)(c):isLk (.unOp a b c)=false:=rfl
theorem zmL(a)(b)(c):zW (.unOp a b c)=true:=rfl
theorem znh(a)(b)(c):isEn (.convert a b c)=false:=rfl
theorem znd(a)(b)(c):isLk (.convert a b c)=false:=rfl
theorem zh1(a)(b)(c):zW (.convert a b c)=true:=rfl
theorem zdm(a)(b):isEn (.sliceToArrayPointer a b)=false:=rfl
theorem zdl(a)(b):isLk (.sliceToArrayPointer a b)=false:=rfl
theorem zcM(a)(b):zW (.sliceToArrayPointer a b)=true:=rfl
theorem zfM(a)(b):isEn (.makeInterface a b)=false:=rfl
theorem zfL(a)(b):isLk (.makeInterface a b)=false:=rfl
theorem zen(a)(b):zW (.makeInterface a b)=true:=rfl
theorem zlv(a)(b)(c):isEn (.makeFunc a b c)=false:=rfl
theorem zlr(a)(b)(c):isLk (.makeFunc a b c)=false:=rfl
theorem zgT(a)(b)(c):zW (.makeFunc a b c)=true:=rfl
theorem znf(a)(b):isEn (.makeMap a b)=false:=rfl
theorem zna(a)(b):isLk (.makeMap a b)=false:=rfl
theorem zhZ(a)(b):zW (.makeMap a b)=true:=rfl
theorem zlw(a)(b):isEn (.makeChan a b)=false:=rfl
theorem zls(a)(b):isLk (.makeChan a b)=false:=rfl
theorem zgU(a)(b):zW (.makeChan a b)=true:=rfl
theorem zi8(a)(b)(c):isEn (.makeSlice a b c)=false:=rfl
theorem zi4(a)(b)(c):isLk (.makeSlice a b c)=false:=rfl
theorem zgn(a)(b)(c):zW (.makeSlice a b c)=true:=rfl
theorem ztT(a)(b)(c)(d)(e):isEn (.slice a b c d e)=false:=rfl
theorem ztH(a)(b)(c)(d)(e):isLk (.slice a b c d e)=false:=rfl
theorem zk5(a)(b)(c)(d)(e):zW (.slice a b c d e)=true:=rfl
theorem zja(a)(b)(c):isEn (.fieldAddr a b c)=false:=rfl
theorem zi6(a)(b)(c):isLk (.fieldAddr a b c)=false:=rfl
theorem zgp(a)(b)(c):zW (.fieldAddr a b c)=true:=rfl
theorem ztY(a)(b)(c):isEn (.field a b c)=false:=rfl
theorem ztM(a)(b)(c):isLk (.field a b c)=false:=rfl
theorem zla(a)(b)(c):zW (.field a b c)=true:=rfl
theorem zi9(a)(b)(c):isEn (.indexAddr a b c)=false:=rfl
theorem zi5(a)(b)(c):isLk (.indexAddr a b c)=false:=rfl
theorem zgo(a)(b)(c):zW (.indexAddr a b c)=true:=rfl
theorem ztX(a)(b)(c):isEn (.index a b c)=false:=rfl
theorem ztL(a)(b)(c):isLk (.index a b c)=false:=rfl
theorem zk9(a)(b)(c):zW (.index a b c)=true:=rfl
theorem zi7(a)(b)(c)(d):isEn (.mapUpdate a b c d)=false:=rfl
theorem zi3(a)(b)(c)(d):isLk (.mapUpdate a b c d)=false:=rfl
theorem zgm(a)(b)(c)(d):zW (.mapUpdate a b c d)=true:=rfl
theorem zlu(a)(b)(c):isEn (.mapEntry a b c)=true:=rfl
theorem zlq(a)(b)(c):isLk (.mapEntry a b c)=false:=rfl
theorem zgS(a)(b)(c):zW (.mapEntry a b c)=true:=rfl
theorem zif(a)(b)(c)(d):isEn (.entryStore a b c d)=false:=rfl
theorem zic(a)(b)(c)(d):isLk (.entryStore a b c d)=false:=rfl
theorem zfD(a)(b)(c)(d):zW (.entryStore a b c d)=true:=rfl
theorem ztV(a)(b):isEn (.range a b)=false:=rfl
theorem ztJ(a)(b):isLk (.range a b)=false:=rfl
theorem zk7(a)(b):zW (.range a b)=true:=rfl
theorem ztZ(a):isEn (.entry a)=false:=rfl
theorem ztN(a):isLk (.entry a)=false:=rfl
theorem zlb(a):zW (.entry a)=true:=rfl
theorem zie(a)(b)(c)(d):isEn (.typeAssert a b c d)=false:=rfl
theorem zib(a)(b)(c)(d):isLk (.typeAssert a b c d)=false:=rfl
theorem zfC(a)(b)(c)(d):zW (.typeAssert a b c d)=true:=rfl
theorem zng(a)(b):isEn (.extract a b)=false:=rfl
theorem znc(a)(b):isLk (.extract a b)=false:=rfl
theorem zh0(a)(b):zW (.extract a b)=true:=rfl
theorem zx3(a):isEn (.call a)=false:=rfl
theorem zxY(a):isLk (.call a)=false:=rfl
theorem zmQ(a):zW (.call a)=true:=rfl
theorem ztW(a):isEn (.panic a)=false:=rfl
theorem ztK(a):isLk (.panic a)=false:=rfl
theorem zk8(a):zW (.panic a)=true:=rfl
theorem zpk(a b c d):isEn (.lookup a b c d)=false:=rfl
theorem zph(a b c):isLk (.lookup a b c false)=true:=rfl
theorem znb(a b c):isLk (.lookup a b c true)=false:=rfl
theorem ziX(a b c d):zW (.lookup a b c d)=true:=rfl
theorem zpa(os:List Oper):zfI os=match zi1 os 0 with|none=>none|some j=>zi2 os 0 none j:=rfl
theorem zxJ(j:Nat):zi1 [] j=none:=rfl
theorem ztv(dst:Option Tmp)(op:Op)(type:TypeId)(pos:String)(after:Array Edge)(g:Option (Nat×Bool))(r:List Oper)(j:Nat):zi1 ({ dst,op,type,pos,after,guard:=g }::r) j=bif isEn op then some j else zi1 r (j+1):=by
 show (match isEn op with|true=>_|false=>_)=_;cases isEn op<;>rfl
theorem zxL(i:Nat)(x:Option Op)(j:Nat):zi2 [] i x j=none:=rfl
theorem zrU(x y:Code):AXc C P K st x y (.bool true) env h=AXs C P K st x env h:=by simp [AXc]
theorem zoc(x y:Code):AXc C P K st x y (.bool false) env h=AXs C P K st y env h:=by simp [AXc]
theorem AXc.intro {x y:Code}{b:Bool}(h1:b=true→AXs C P K st x env h)(h2:b=false→AXs C P K st y env h):AXc C P K st x y (.bool b) env h:=by
 cases b with
 |true=>rw [zrU];exact h1 rfl
 |false=>rw [zoc];exact h2 rfl
theorem axt_eq:AXt C P K st env h=AXs C P K st .skip env h:=rfl
theorem axr_nil:AXr C P K st ops [] env h=AXt C P K st (zcG C.keep env) h:=rfl
theorem axr_cons(dst:Option Tmp)(op:Op)(type:TypeId)(pos:String)(after:Array Edge):
 AXr C P K st ops ({ dst,op,type,pos,after,guard:=none }::os) env h=AXf1 C P K st ops os dst (step1 C P env op h) env h:=rfl
theorem zAp(d:Tmp)(b:Bool)(pre:Prop)(v:V)(h':Hp)(R W:List Nat)(lo hi:Nat):AXf1 C P K st ops os (some d) (.ok b pre v h' ⟨R,W,lo,hi⟩) env h=(pre∧wok C W=true∧AXr C P K st ops os ((d,v)::env) h'):=rfl
theorem zAq(b:Bool)(pre:Prop)(v:V)(h':Hp)(R W:List Nat)(lo hi:Nat):AXf1 C P K st ops os none (.ok b pre v h' ⟨R,W,lo,hi⟩) env h=(pre∧wok C W=true∧AXr C P K st ops os env h'):=rfl
theorem axf1_pan(d:Option Tmp)(pre:Prop)(v:V)(R:List Nat):AXf1 C P K st ops os d (.pan pre v R) env h=(pre∧K (.panic v) ⟨env,h⟩):=by show (pre∧unst C P K st (.panic v) _)=_;rw [zb6]
def getO:List Oper→Nat→Option Tmp
 |[],_=>none
 |o::r,i=>bif i==0 then o.dst else getO r (i - 1)
theorem znm(o:Oper)(r:List Oper)(i:Nat):getO (o::r) i=bif i==0 then o.dst else getO r (i - 1):=rfl
theorem zyc:∀(os:List Oper) (i:Nat),(os[i]?).bind (·.dst)=getO os i
 |[],_=>rfl
 |o::r,0=>rfl
 |o::r,i+1=>by rw [List.getElem?_cons_succ,zyc r i,znm];rfl
def zjR(v:V)(want:Bool):Option Bool:=
 match v with
 | .bool b=>some (b==want)
 | .opt c (.bool b)=>some (c&&(b==want))
 | .opt false _=>some false
 | .tup []=>some false
 |_=>none
theorem guardV_t(b:Bool):zjR (.bool b) true=some b:=by cases b<;>rfl
theorem guardV_f(b:Bool):zjR (.bool b) false=some (!b):=by cases b<;>rfl
theorem zx9(c b:Bool):zjR (.opt c (.bool b)) true=some (c&&b):=by cases b<;>rfl
theorem zya(c b:Bool):zjR (.opt c (.bool b)) false=some (c&& !b):=by cases b<;>rfl
def znl(o:Option Tmp)(env:Env)(want:Bool):Option Bool:=
 match o with
 |some d=>zjR (zea env d) want
 |none=>none
theorem zpp(d:Tmp)(env:Env)(want:Bool):znl (some d) env want=zjR (zea env d) want:=rfl
theorem zx8(os:List Oper)(env:Env)(o:Oper)(j:Nat)(want:Bool)(hg:o.guard=some (j,want)):gval ⟨os⟩ env o=znl (getO os j) env want:=by
 unfold gval;rw [hg];have e:((⟨os⟩:Array Oper)[j]?).bind (·.dst)=getO os j:=by rw [←zyc];simp
 simp only [e];unfold znl;cases hd:getO os j with
 |none=>rfl
 |some d=>
  simp only [];rw [←zdN];cases env.lookup d with
  |none=>rfl
  |some v=>
   cases v with
   |opt c v=>cases v<;>cases c<;>rfl
   |tup l=>cases l<;>rfl
   |_=>rfl
theorem zAh(os0:List Oper)(dst:Option Tmp)(op:Op)(type:TypeId)(pos:String)(after:Array Edge)(j:Nat)(want:Bool):
 AXr C P K st ⟨os0⟩ ({ dst,op,type,pos,after,guard:=some (j,want) }::os) env h=AXg1 C P K st ⟨os0⟩ os dst (znl (getO os0 j) env want) (step1 C P env op h) env h:=by
 rw [←zx8 os0 env { dst,op,type,pos,after,guard:=some (j,want) } j want rfl]
 unfold AXr AXg1
 rfl
theorem zAl(d:Tmp)(gb:Bool)(pre:Prop)(v:V)(h':Hp)(R W:List Nat)(lo hi:Nat):AXg1 C P K st ops os (some d) (some gb) (.ok true pre v h' ⟨R,W,lo,hi⟩) env h=((gb=true→pre)∧AXr C P K st ops os ((d,.opt gb v)::env) h):=rfl
theorem zAm(gb:Bool)(pre:Prop)(v:V)(h':Hp)(R W:List Nat)(lo hi:Nat):AXg1 C P K st ops os none (some gb) (.ok true pre v h' ⟨R,W,lo,hi⟩) env h=((gb=true→pre)∧AXr C P K st ops os env h):=rfl
theorem AXg1.pan {d:Tmp}{gb:Bool}{pre:Prop}{v:V}{R:List Nat}(h1:gb=true→pre∧K (.panic v) ⟨env,h⟩)(h2:gb=false→AXr C P K st ops os ((d,zar)::env) h):AXg1 C P K st ops os (some d) (some gb) (.pan pre v R) env h:=by
 show (if gb=true then(pre∧unst C P K st (.panic v) _)else _);cases gb with
 |true=>rw [if_pos rfl,zb6];exact h1 rfl
 |false=>rw [if_neg (by simp)];exact h2 rfl
theorem axd_nil(i:Nat)(acc:List (Nat×Foot)):AXd C P K st ops [] i acc env h=AXk C P K st ops acc env h:=rfl
theorem axd_cons(dst:Option Tmp)(op:Op)(type:TypeId)(pos:String)(after:Array Edge)(i:Nat)(acc:List (Nat×Foot)):
 AXd C P K st ops ({ dst,op,type,pos,after,guard:=none }::os) i acc env h=AXf2 C P K st ops os i dst (step1 C P env op h) acc env h:=rfl
theorem zAr(os0:List Oper)(dst:Option Tmp)(op:Op)(type:TypeId)(pos:String)(after:Array Edge)(j:Nat)(want:Bool)(i:Nat)(acc:List (Nat×Foot)):
 AXd C P K st ⟨os0⟩ ({ dst,op,type,pos,after,guard:=some (j,want) }::os) i acc env h=AXg2 C P K st ⟨os0⟩ os i dst (znl (getO os0 j) env want) (step1 C P env op h) acc env h:=by
 rw [←zx8 os0 env { dst,op,type,pos,after,guard:=some (j,want) } j want rfl]
 unfold AXd AXg2
 rfl
def accM(acc:List (Nat×Foot))(i:Nat)(R W:List Nat)(lo hi:Nat):List (Nat×Foot):=bif R.isEmpty&&W.isEmpty&&lo==hi then acc else(i,⟨R,W,lo,hi⟩)::acc
theorem zp9(acc:List (Nat×Foot))(i:Nat)(R W:List Nat)(lo hi:Nat):accF acc i ⟨R,W,lo,hi⟩=accM acc i R W lo hi:=by unfold accF Foot.idle accM;cases (R.isEmpty&&W.isEmpty&&lo==hi)<;>rfl
theorem zAC(acc:List (Nat×Foot))(i lo hi:Nat):accM acc i [] [] lo hi=bif lo==hi then acc else(i,⟨[],[],lo,hi⟩)::acc:=rfl
theorem accM_r(acc:List (Nat×Foot))(i b:Nat)(R W:List Nat)(lo hi:Nat):accM acc i (b::R) W lo hi=(i,⟨b::R,W,lo,hi⟩)::acc:=rfl
theorem accM_w(acc:List (Nat×Foot))(i b:Nat)(W:List Nat)(lo hi:Nat):accM acc i [] (b::W) lo hi=(i,⟨[],b::W,lo,hi⟩)::acc:=rfl
theorem zAn(i:Nat)(d:Tmp)(b:Bool)(pre:Prop)(v:V)(h':Hp)(R W:List Nat)(lo hi:Nat)(acc:List (Nat×Foot)):AXf2 C P K st ops os i (some d) (.ok b pre v h' ⟨R,W,lo,hi⟩) acc env h=
 (pre∧wok C W=true∧AXd C P K st ops os (i+1) (accM acc i R W lo hi) ((d,v)::env) h'):=by rw [←zp9];rfl
theorem zAo(i:Nat)(b:Bool)(pre:Prop)(v:V)(h':Hp)(R W:List Nat)(lo hi:Nat)(acc:List (Nat×Foot)):AXf2 C P K st ops os i none (.ok b pre v h' ⟨R,W,lo,hi⟩) acc env h=
 (pre∧wok C W=true∧AXd C P K st ops os (i+1) (accM acc i R W lo hi) env h'):=by rw [←zp9];rfl
theorem axe_nil(i0:Nat)(op0:Op)(j0:Nat)(i:Nat)(acc:List (Nat×Foot))(l:Option LK):AXe C P K st ops i0 op0 j0 [] i acc l env h=(chkX ops i0 j0 acc=true∧AXt C P K st (zcG C.keep env) h):=rfl
theorem lateA_f(W:List Nat)(h' h:Hp):lateA false W h' h=True:=rfl
theorem lateA_t(W:List Nat)(h' h:Hp):lateA true W h' h=(W=[]∧h'=h):=rfl
theorem lateB_f(op0:Op)(r:Option LK)(h:Hp)(f:Foot):lateB1 false C P op0 r h f=True:=rfl
theorem lateR_f(env:Env)(h:Hp)(v:V)(f:Foot)(r:Option LK):lateR false env h v f r=r:=rfl
theorem lateR_t(env:Env)(h:Hp)(v:V)(f:Foot)(r:Option LK):lateR true env h v f r=some ⟨⟨env,h⟩,v,f⟩:=rfl
theorem lateK_ok(b:Bool)(pre:Prop)(v v':V)(h h':Hp)(f f':Foot):LateK (.ok b pre v' h' f') h v f=(pre∧v'=v∧h'=h∧f'=f):=rfl
theorem axf2_pan(i:Nat)(d:Option Tmp)(pre:Prop)(v:V)(R:List Nat)(acc:List (Nat×Foot)):AXf2 C P K st ops os i d (.pan pre v R) acc env h=(pre∧zem ops i=true∧chk ops acc=true∧K (.panic v) ⟨env,h⟩):=by show (pre∧zem ops i=true∧chk ops acc=true∧unst C P K st (.panic v) _)=_;rw [zb6]
theorem zAj(i:Nat)(d:Tmp)(gb:Bool)(pre:Prop)(v:V)(h':Hp)(R W:List Nat)(lo hi:Nat)(acc:List (Nat×Foot)):AXg2 C P K st ops os i (some d) (some gb) (.ok true pre v h' ⟨R,W,lo,hi⟩) acc env h=
 ((gb=true→pre)∧AXd C P K st ops os (i+1) (accM acc i R [] 0 0) ((d,.opt gb v)::env) h):=by rw [←zp9];rfl
theorem AXg2.pan {i:Nat}{d:Tmp}{gb:Bool}{pre:Prop}{v:V}{R:List Nat}{acc:List (Nat×Foot)}(h1:gb=true→pre∧zem ops i=true∧chk ops acc=true∧K (.panic v) ⟨env,h⟩)
 (h2:gb=false→AXd C P K st ops os (i+1) (accF acc i ⟨[],[],0,0⟩) ((d,zar)::env) h):AXg2 C P K st ops os i (some d) (some gb) (.pan pre v R) acc env h:=by
 show (if gb=true then(pre∧zem ops i=true∧chk ops acc=true∧unst C P K st (.panic v) _)else _)
 cases gb with
 |true=>rw [if_pos rfl,zb6];exact h1 rfl
 |false=>rw [if_neg (by simp)];exact h2 rfl
theorem axk_nil:AXk C P K st ops [] env h=AXt C P K st (zcG C.keep env) h:=by show (chk ops []=true∧_)=_;simp [chk]
theorem AXk.intro {acc:List (Nat×Foot)}(h1:chk ops acc=true)(h2:AXt C P K st (zcG C.keep env) h):AXk C P K st ops acc env h:=⟨h1,h2⟩
def zqF:List (Nat×Foot)→Bool
 |[]=>true
 |(_,f)::r=>f.still&&zqF r
theorem zsk:zqF []=true:=rfl
theorem zop(i:Nat)(R W:List Nat)(lo hi:Nat)(r:List (Nat×Foot)):zqF ((i,⟨R,W,lo,hi⟩)::r)=(W.isEmpty&&lo==hi&&zqF r):=rfl
theorem wok_nil:wok C []=true:=rfl
theorem wok_cons(b:Nat)(W:List Nat):wok C (b::W)=((decide (C.nx≤b)||C.Wm.contains b)&&wok C W):=rfl
def mkSR(st:Bool)(c:Prop)(r:AR)(H:Hp):SR:=.ok st (c∧r.pre) r.v r.h ⟨r.R,r.W,H.next,r.h.next⟩
@[congr] theorem mkSR_congr {st:Bool}{c c':Prop}{r r':AR}{H:Hp}(hc:c=c')(hr:r=r'):mkSR st c r H=mkSR st c' r' H:=by rw [hc,hr]
theorem mkSR_mk(st:Bool)(c p:Prop)(v:V)(h:Hp)(R W:List Nat)(H:Hp):mkSR st c ⟨p,v,h,R,W⟩ H=.ok st (c∧p) v h ⟨R,W,H.next,h.next⟩:=rfl
theorem next_mk(bs:List (Nat×Blk))(n:Nat):Hp.next ⟨bs,n⟩=n:=rfl
theorem zal {op:Op}{env:Env}{H:Hp}{c:Prop}{r:AR}(h1:step1 C P env op H=.ok (zeY op) (needs (op.operands.toList.map (ev env))∧(aop P (rho env) op H).pre) (aop P (rho env) op H).v (aop P (rho env) op H).h
 ⟨(aop P (rho env) op H).R,(aop P (rho env) op H).W,H.next,(aop P (rho env) op H).h.next⟩) (h2:needs (op.operands.toList.map (ev env))↔c) (h3:aop P (rho env) op H=r):step1 C P env op H=mkSR (zeY op) c r H:=by
 rw [h1,h3,propext h2];rfl
theorem zs9(v:V)(r:List V):needs (v::r)=(v.cond∧needs r):=rfl
variable {H:Hp}
theorem zsp(x:Operand):step1 C P env (.move x) H=mkSR true (ev env x).cond (.val H (ev env x).val) H:=zal rfl (by simp [Op.operands,needs]) rfl
theorem zmm(x:Operand):step1 C P env (.assign x) H=mkSR true (ev env x).cond (.val H (ev env x).val) H:=zal rfl (by simp [Op.operands,needs]) rfl
theorem zso(c a b:Operand):step1 C P env (.pick c a b) H=zda (ev env c) (ev env a) (ev env b) H:=rfl
theorem zow(t:TypeId):step1 C P env (.alloc t) H=mkSR false True (zeX P t H) H:=zal rfl (by simp [Op.operands,needs]) rfl
def boxK(b:Bool)(c:Prop)(v:V)(H:Hp):SR:=match b with|true=>.ok true (c∧zq v=true) (.fp v.cellsV) H ⟨[],[],H.next,H.next⟩|false=>mkSR false c (aBox v H) H
theorem zvV(t:TypeId)(x:Operand):step1 C P env (.box t x) H=boxK (C.fz t) (ev env x).cond (ev env x).val H:=by
 show (if C.fz t=true then _ else _)=_;unfold boxK;cases C.fz t with
 |true=>rw [if_pos rfl]
 |false=>rw [if_neg (by simp)];show SR.ok false (needs [ev env x]∧_) _ _ _=mkSR _ _ _ _;unfold mkSR needs needs;simp only [and_true];rfl
theorem zAb(c:Prop)(v:V):boxK true c v H=.ok true (c∧zq v=true) (.fp v.cellsV) H ⟨[],[],H.next,H.next⟩:=rfl
theorem zu4(c:Prop)(v:V):boxK false c v H=mkSR false c (aBox v H) H:=rfl
theorem zsq(t:TypeId)(x:Operand):step1 C P env (.load t x) H=mkSR true (ev env x).cond (zcp P t (ev env x).val H) H:=zal rfl (by simp [Op.operands,needs]) rfl
theorem zoq(t:TypeId)(a x:Operand):step1 C P env (.store t a x) H=mkSR false ((ev env a).cond∧(ev env x).cond) (zd9 P t (ev env a).val (ev env x).val H) H:=zal rfl (by simp [Op.operands,needs]) rfl
theorem ziQ(x:Operand):step1 C P env (.nilCheck x) H=mkSR true (ev env x).cond (aNil (ev env x).val H) H:=zal rfl (by simp [Op.operands,needs]) rfl
theorem zvW(op:BinOp)(t:TypeId)(x y:Operand)(u:TypeId):step1 C P env (.binOp op t x y u) H=mkSR true ((ev env x).cond∧(ev env y).cond) (aBin P op t (ev env x).val (ev env y).val H) H:=zal rfl (by simp [Op.operands,needs]) rfl
theorem step1_un(op:UnOp)(t:TypeId)(x:Operand):step1 C P env (.unOp op t x) H=mkSR true (ev env x).cond (aUn op (ev env x).val H) H:=zal rfl (by simp [Op.operands,needs]) rfl
theorem zkz(s d:TypeId)(x:Operand):step1 C P env (.convert s d x) H=mkSR false (ev env x).cond (zds P s d (ev env x).val H) H:=zal rfl (by simp [Op.operands,needs]) rfl
theorem zot(t:TypeId)(x:Operand):step1 C P env (.makeInterface t x) H=mkSR true (ev env x).cond (za7 P t (ev env x).val H) H:=zal rfl (by simp [Op.operands,needs]) rfl
theorem ziR(f:FuncId)(caps:List Operand):step1 C P env (.makeFunc (.func f) #[] ⟨caps⟩) H=mkSR true (needs (caps.map (ev env))) (.val H (.fn f (caps.map (rho env)))) H:=zal rfl (by simp [Op.operands]) rfl
theorem zhD(t:TypeId)(l c:Operand):step1 C P env (.makeSlice t l c) H=mkSR false ((ev env l).cond∧(ev env c).cond) (zaJ P t (ev env l).val (ev env c).val H) H:=zal rfl (by simp [Op.operands,needs]) rfl
theorem zkv(t:TypeId)(x l:Operand):step1 C P env (.slice t x (some l) none none) H=mkSR true ((ev env x).cond∧(ev env l).cond) (za9 P t (ev env x).val (some (ev env l).val) none none H) H:=zal rfl (by simp [Op.operands,needs]) rfl
theorem zkw(t:TypeId)(x h:Operand):step1 C P env (.slice t x none (some h) none) H=mkSR true ((ev env x).cond∧(ev env h).cond) (za9 P t (ev env x).val none (some (ev env h).val) none H) H:=zal rfl (by simp [Op.operands,needs]) rfl
theorem zku(t:TypeId)(x l h:Operand):step1 C P env (.slice t x (some l) (some h) none) H=mkSR true ((ev env x).cond∧(ev env l).cond∧(ev env h).cond) (za9 P t (ev env x).val (some (ev env l).val) (some (ev env h).val) none H) H:=zal rfl (by simp [Op.operands,needs]) rfl
theorem zhG(t:TypeId)(x:Operand)(f:Nat):step1 C P env (.fieldAddr t x f) H=mkSR true (ev env x).cond (zaC P t (ev env x).val f H) H:=zal rfl (by simp [Op.operands,needs]) rfl
theorem zhF(t:TypeId)(x i:Operand):step1 C P env (.indexAddr t x i) H=mkSR true ((ev env x).cond∧(ev env i).cond) (zao P t (ev env x).val (ev env i).val H) H:=zal rfl (by simp [Op.operands,needs]) rfl
theorem zos(t:TypeId)(x i:Operand):step1 C P env (.index t x i) H=mkSR true ((ev env x).cond∧(ev env i).cond) (zc6 P t (ev env x).val (ev env i).val H) H:=zal rfl (by simp [Op.operands,needs]) rfl
theorem zky(x:Operand)(i:Nat):step1 C P env (.extract x i) H=mkSR true (ev env x).cond (zbm (ev env x).val i H) H:=zal rfl (by simp [Op.operands,needs]) rfl
theorem zvT(t:TypeId)(x:Operand):step1 C P env (.call { callee:=.builtin .len,args:=⟨[x]⟩,argTypes:=⟨[t]⟩ }) H=mkSR true (ev env x).cond (aLen P t (ev env x).val H) H:=zal rfl (by simp [Op.operands,Call.operands,needs]) rfl
theorem zmn(t u:TypeId)(x y:Operand):step1 C P env (.call { callee:=.builtin .append,args:=⟨[x,y]⟩,argTypes:=⟨[t,u]⟩ }) H=mkSR false ((ev env x).cond∧(ev env y).cond) (zcU P t u (ev env x).val (ev env y).val H) H:=zal rfl (by simp [Op.operands,Call.operands,needs]) rfl
theorem zvS(x y:Operand)(ts:Array TypeId):step1 C P env (.call { callee:=.builtin .max,args:=⟨[x,y]⟩,argTypes:=ts }) H=mkSR true ((ev env x).cond∧(ev env y).cond) (aMax (ev env x).val (ev env y).val true H) H:=zal rfl (by simp [Op.operands,Call.operands,needs]) rfl
def zb0(env:Env):List (Nat×Operand)→List (Nat×V)
 |[]=>[]
 |(i,x)::r=>(i,(ev env x).val)::zb0 env r
theorem zsW:zb0 env []=[]:=rfl
theorem zoR(i:Nat)(x:Operand)(r:List (Nat×Operand)):zb0 env ((i,x)::r)=(i,(ev env x).val)::zb0 env r:=rfl
theorem zdj:∀ ps:List (Nat×Operand),ps.map (fun p=>(p.1,rho env p.2))=zb0 env ps
 |[]=>rfl
 |(i,x)::r=>by rw [List.map_cons,zdj r];rfl
def zh5(env:Env):List (Nat×Operand)→Prop
 |[]=>True
 |(_,x)::r=>(ev env x).cond∧zh5 env r
theorem zta:zh5 env []=True:=rfl
theorem zo4(i:Nat)(x:Operand)(r:List (Nat×Operand)):zh5 env ((i,x)::r)=((ev env x).cond∧zh5 env r):=rfl
theorem zh4:∀ ps:List (Nat×Operand),needs ((ps.map (·.2)).map (ev env))↔zh5 env ps
 |[]=>Iff.rfl
 |_::r=>and_congr Iff.rfl (zh4 r)
theorem zov(t:TypeId)(ps:List (Nat×Operand)):step1 C P env (.build t ⟨ps⟩) H=mkSR true (zh5 env ps) (zc8 P t (zb0 env ps) H) H:=
 zal rfl (by rw [←zh4];simp [Op.operands]) (by rw [←zdj];rfl)
theorem zgP(t:TypeId)(n:Nat)(ps:List (Nat×Operand)):step1 C P env (.buildSlice t n ⟨ps⟩) H=mkSR false (zh5 env ps) (zY P t n (zb0 env ps) H) H:=
 zal rfl (by rw [←zh4];simp [Op.operands]) (by rw [←zdj];rfl)
theorem zor(x:Operand):step1 C P env (.panic x) H=match (ev env x).val with| .ifc t v=>.pan (ev env x).cond (.ifc t v) []|_=>.bad:=rfl
def vals(env:Env):List Operand→List V
 |[]=>[]
 |x::r=>(ev env x).val::vals env r
theorem vals_nil:vals env []=[]:=rfl
theorem zvu(x:Operand)(r:List Operand):vals env (x::r)=(ev env x).val::vals env r:=rfl
theorem vals_eq:∀ xs:List Operand,xs.map (rho env)=vals env xs
 |[]=>rfl
 |x::r=>by rw [List.map_cons,vals_eq r];rfl
def conds(env:Env):List Operand→Prop
 |[]=>True
 |x::r=>(ev env x).cond∧conds env r
theorem zyM:conds env []=True:=rfl
theorem zup(x:Operand)(r:List Operand):conds env (x::r)=((ev env x).cond∧conds env r):=rfl
theorem zlI:∀ xs:List Operand,needs (xs.map (ev env))=conds env xs
 |[]=>rfl
 |x::r=>by rw [List.map_cons,zs9,zlI r];rfl
theorem zhE(f:FuncId)(caps:List Operand):step1 C P env (.makeFunc (.func f) ⟨[]⟩ ⟨caps⟩) H=mkSR true (conds env caps) (.val H (.fn f (vals env caps))) H:=by rw [←vals_eq, ←zlI];exact ziR f caps
def callF(C:Cfg)(v:V)(as:List V)(nd:Prop)(H:Hp):SR:=
 match v with
 | .fn f caps=>zcw C f (as++caps) nd H
 | .bnd f fs=>zcw C f (fs++as) nd H
 |_=>.bad
theorem callF_fn(f:FuncId)(caps as:List V)(nd:Prop):callF C (.fn f caps) as nd H=zcw C f (as++caps) nd H:=rfl
theorem zsr(f:Operand)(args:List Operand)(ts:Array TypeId):step1 C P env (.call { callee:=.value f,args:=⟨args⟩,argTypes:=ts }) H=
 callF C (ev env f).val (vals env args) ((ev env f).cond∧conds env args) H:=by
 rw [←vals_eq, ←zlI];rfl
def znL(o:Option PR)(C:Cfg)(f:FuncId)(as:List V)(nd:Prop)(H:Hp):SR:=
 match o with
 |some (.ret v)=>.ok true nd v H ⟨[],[],0,0⟩
 |some (.panic v)=>.pan nd v []
 |none=>
  match C.Δ f as H with
  |some r=>mkSR false nd r H
  |none=>.bad
def nzs:List V→List V
 |[]=>[]
 |v::r=>nz v::nzs r
theorem nzs_nil:nzs []=[]:=rfl
theorem nzs_cons(v:V)(r:List V):nzs (v::r)=nz v::nzs r:=rfl
theorem nzs_eq:∀ as:List V,as.map nz=nzs as
 |[]=>rfl
 |v::r=>by rw [List.map_cons,nzs_eq r];rfl
theorem nz_bool(b:Bool):nz (.bool b)=.bool b:=rfl
theorem nz_int(k:IntKind)(n:Int):nz (.int k n)=.int k n:=rfl
theorem nz_str(l:List UInt8):nz (.str l)=.str l:=rfl
theorem nz_nilS:nz .nilS=.fs [] 0:=rfl
theorem nz_sl(b o l s:Nat)(k:Option Nat):nz (.sl b o l s k)=.sl b o l s k:=rfl
theorem nz_fs(cs:List V)(n:Nat):nz (.fs cs n)=.fs cs n:=rfl
theorem nz_nilP:nz .nilP=.nilP:=rfl
theorem nz_ptr(b o:Nat):nz (.ptr b o)=.ptr b o:=rfl
theorem nz_fp(cs:List V):nz (.fp cs)=.fp cs:=rfl
theorem nz_nilM:nz .nilM=.nilM:=rfl
theorem nz_map(b:Nat):nz (.map b)=.map b:=rfl
theorem nz_fn(f:FuncId)(cs:List V):nz (.fn f cs)=.fn f cs:=rfl
theorem nz_nilF:nz .nilF=.nilF:=rfl
theorem nz_ifc(t:TypeId)(v:V):nz (.ifc t v)=.ifc t v:=rfl
theorem nz_nilI:nz .nilI=.nilI:=rfl
theorem nz_agg(cs:List V):nz (.agg cs)=.agg cs:=rfl
theorem nz_tup(cs:List V):nz (.tup cs)=.tup cs:=rfl
theorem nz_any:nz .any=.any:=rfl
def zpJ(b:Bool)(C:Cfg)(f:FuncId)(as:List V)(nd:Prop)(H:Hp):SR:=
 match b with
 |true=>znL (C.Γ f (nzs as)) C f as nd H
 |false=>
  match C.Δ f as H with
  |some r=>mkSR false nd r H
  |none=>
   match C.Γ f (as.map (lend H))with
   |some (.ret v)=>.ok true (nd∧zaD v=true) v H ⟨zco as,[],0,0⟩
   |some (.panic v)=>.pan (nd∧zaD v=true) v (zco as)
   |none=>.bad
theorem call1_eq(f:FuncId)(as:List V)(nd:Prop):zcw C f as nd H=zpJ (zco as).isEmpty C f as nd H:=by
 unfold zcw zpJ;cases (zco as).isEmpty with
 |true=>rw [if_pos rfl, ←nzs_eq];unfold znL mkSR;rfl
 |false=>rw [if_neg (by simp)];rfl
theorem zuB(f:FuncId)(as:List V)(nd:Prop):zpJ true C f as nd H=znL (C.Γ f (nzs as)) C f as nd H:=rfl
@[congr] theorem callE_congr {b b':Bool}{f:FuncId}{as:List V}{nd:Prop}(h:b=b'):zpJ b C f as nd H=zpJ b' C f as nd H:=by rw [h]
theorem lend_sl(b off len sz:Nat)(kc:Option Nat):lend H (.sl b off len sz kc)=ztn (H.get b) b off len sz kc:=rfl
theorem ztm(cs:List V)(b off len sz:Nat)(kc:Option Nat):ztn (some (.cells cs)) b off len sz kc=if off+len*sz≤cs.length then .fs ((cs.drop off).take (len*sz)) len else .sl b off len sz kc:=rfl
theorem zxC(b:Bool):lend H (.bool b)=.bool b:=rfl
theorem lend_int(k:IntKind)(n:Int):lend H (.int k n)=.int k n:=rfl
theorem lend_str(l:List UInt8):lend H (.str l)=.str l:=rfl
theorem zxA:lend H .nilS=.fs [] 0:=rfl
theorem lend_fs(cs:List V)(n:Nat):lend H (.fs cs n)=.fs cs n:=rfl
theorem zxB:lend H .nilP=.nilP:=rfl
theorem lend_ptr(b o:Nat):lend H (.ptr b o)=ztq (H.get b) b o:=rfl
theorem ztp(cs:List V)(b off:Nat):ztq (some (.cells cs)) b off=.fp (cs.drop off):=rfl
theorem lend_fp(cs:List V):lend H (.fp cs)=.fp cs:=rfl
theorem lend_map(b:Nat):lend H (.map b)=.map b:=rfl
def zjM(H:Hp):List V→List V
 |[]=>[]
 |v::r=>zeS H v::zjM H r
theorem ztk:zjM H []=[]:=rfl
theorem zo9(v:V)(r:List V):zjM H (v::r)=zeS H v::zjM H r:=rfl
theorem zm4:∀ vs:List V,vs.map (zeS H)=zjM H vs
 |[]=>rfl
 |v::r=>by rw [List.map_cons,zm4 r];rfl
theorem lend_fn(f:FuncId)(cs:List V):lend H (.fn f cs)=.fn f (zjM H cs):=by rw [←zm4];rfl
theorem lend0_sl(b off len sz:Nat)(kc:Option Nat):zeS H (.sl b off len sz kc)=ztn (H.get b) b off len sz kc:=rfl
theorem zxF(b o:Nat):zeS H (.ptr b o)=ztq (H.get b) b o:=rfl
theorem zts(b:Bool):zeS H (.bool b)=.bool b:=rfl
theorem zxG(k:IntKind)(n:Int):zeS H (.int k n)=.int k n:=rfl
theorem zxE(l:List UInt8):zeS H (.str l)=.str l:=rfl
theorem lend0_fs(cs:List V)(n:Nat):zeS H (.fs cs n)=.fs cs n:=rfl
theorem lend0_fp(cs:List V):zeS H (.fp cs)=.fp cs:=rfl
theorem zsM(b:Bool):zeh (.bool b)=[]:=rfl
theorem zwg(k:IntKind)(n:Int):zeh (.int k n)=[]:=rfl
theorem zwe(l:List UInt8):zeh (.str l)=[]:=rfl
theorem refs1_fs(cs:List V)(n:Nat):zeh (.fs cs n)=[]:=rfl
theorem refs1_fp(cs:List V):zeh (.fp cs)=[]:=rfl
theorem zsK:zeh .nilS=[]:=rfl
theorem zsL:zeh .nilP=[]:=rfl
theorem refs1_sl(b off len sz:Nat)(kc:Option Nat):zeh (.sl b off len sz kc)=[b]:=rfl
theorem zwf(b o:Nat):zeh (.ptr b o)=[b]:=rfl
def zoK:List V→List Nat
 |[]=>[]
 |v::r=>zdF v++zoK r
theorem zwd:zoK []=[]:=rfl
theorem zsJ(v:V)(r:List V):zoK (v::r)=zdF v++zoK r:=rfl
theorem zkK:∀ vs:List V,vs.flatMap zdF=zoK vs
 |[]=>rfl
 |v::r=>by rw [List.flatMap_cons,zkK r];rfl
theorem refs1_fn(f:FuncId)(cs:List V):zeh (.fn f cs)=zoK cs:=by rw [←zkK];rfl
theorem zwh(cs:List V):zeh (.agg cs)=zoK cs:=by rw [←zkK];rfl
theorem refs0_sl(b off len sz:Nat)(kc:Option Nat):zdF (.sl b off len sz kc)=[b]:=rfl
theorem zwj(b o:Nat):zdF (.ptr b o)=[b]:=rfl
theorem zwk(k:IntKind)(n:Int):zdF (.int k n)=[]:=rfl
theorem zwi(l:List UInt8):zdF (.str l)=[]:=rfl
theorem zsP(b:Bool):zdF (.bool b)=[]:=rfl
theorem refs0_fs(cs:List V)(n:Nat):zdF (.fs cs n)=[]:=rfl
theorem refs0_fp(cs:List V):zdF (.fp cs)=[]:=rfl
theorem zxD:zco []=[]:=rfl
theorem zto(v:V)(r:List V):zco (v::r)=zeh v++zco r:=rfl
theorem zoA(b:Bool):zaD (.bool b)=true:=rfl
theorem scalar_int(k:IntKind)(n:Int):zaD (.int k n)=true:=rfl
theorem zsy(l:List UInt8):zaD (.str l)=true:=rfl
theorem zsx(vs:List V):zaD (.tup vs)=vs.all zff:=rfl
theorem zsA(vs:List V):zaD (.agg vs)=vs.all zff:=rfl
theorem zsz(t:TypeId)(v:V):zaD (.ifc t v)=zff v:=rfl
theorem zAt:([]:List V).all zff=true:=rfl
theorem zu8(v:V)(r:List V):(v::r).all zff=(zff v&&r.all zff):=rfl
theorem zAu(b:Bool):zff (.bool b)=true:=rfl
theorem atom_int(k:IntKind)(n:Int):zff (.int k n)=true:=rfl
theorem atom_str(l:List UInt8):zff (.str l)=true:=rfl
theorem lend_ifc(t:TypeId)(v:V):lend H (.ifc t v)=.ifc t v:=rfl
theorem ztr:zeS H .nilS=.fs [] 0:=rfl
theorem zsO:zdF .nilS=[]:=rfl
theorem zy1(v:V)(f:FuncId)(as:List V)(nd:Prop):znL (some (.ret v)) C f as nd H=.ok true nd v H ⟨[],[],0,0⟩:=rfl
theorem zy2(v:V)(f:FuncId)(as:List V)(nd:Prop):znL (some (.panic v)) C f as nd H=.pan nd v []:=rfl
@[congr] theorem callG_congr {o o':Option PR}{f:FuncId}{as:List V}{nd:Prop}(h:o=o'):znL o C f as nd H=znL o' C f as nd H:=by rw [h]
def callM(o:Option AR)(nd:Prop)(H:Hp):SR:=match o with|some r=>mkSR false nd r H|none=>.bad
theorem zuA(f:FuncId)(as:List V)(nd:Prop):znL none C f as nd H=callM (C.Δ f as H) nd H:=rfl
theorem zuy(r:AR)(nd:Prop):callM (some r) nd H=mkSR false nd r H:=rfl
def zpK(o:Option AR)(C:Cfg)(f:FuncId)(as:List V)(nd:Prop)(H:Hp):SR:=
 match o with
 |some r=>mkSR false nd r H
 |none=>
  match C.Γ f (as.map (lend H))with
  |some (.ret v)=>.ok true (nd∧zaD v=true) v H ⟨zco as,[],0,0⟩
  |some (.panic v)=>.pan (nd∧zaD v=true) v (zco as)
  |none=>.bad
theorem zpI(f:FuncId)(as:List V)(nd:Prop):zpJ false C f as nd H=zpK (C.Δ f as H) C f as nd H:=by unfold zpJ zpK;rfl
@[congr] theorem callD_congr {o o':Option AR}{f:FuncId}{as:List V}{nd:Prop}(h:o=o'):zpK o C f as nd H=zpK o' C f as nd H:=by rw [h]
theorem zuC(r:AR)(f:FuncId)(as:List V)(nd:Prop):zpK (some r) C f as nd H=mkSR false nd r H:=rfl
def zuz(o:Option PR)(as:List V)(nd:Prop)(H:Hp):SR:=
 match o with
 |some (.ret v)=>.ok true (nd∧zaD v=true) v H ⟨zco as,[],0,0⟩
 |some (.panic v)=>.pan (nd∧zaD v=true) v (zco as)
 |none=>.bad
def ztl(H:Hp):List V→List V
 |[]=>[]
 |v::r=>lend H v::ztl H r
theorem zxz:ztl H []=[]:=rfl
theorem ztj(v:V)(r:List V):ztl H (v::r)=lend H v::ztl H r:=rfl
theorem zq4:∀ as:List V,as.map (lend H)=ztl H as
 |[]=>rfl
 |v::r=>by rw [List.map_cons,zq4 r];rfl
theorem zuD(f:FuncId)(as:List V)(nd:Prop):zpK none C f as nd H=zuz (C.Γ f (ztl H as)) as nd H:=by rw [←zq4];unfold zpK zuz;rfl
@[congr] theorem callL_congr {o o':Option PR}{as:List V}{nd:Prop}(h:o=o'):zuz o as nd H=zuz o' as nd H:=by rw [h]
theorem zyZ(v:V)(as:List V)(nd:Prop):zuz (some (.ret v)) as nd H=.ok true (nd∧zaD v=true) v H ⟨zco as,[],0,0⟩:=rfl
theorem zy0(v:V)(as:List V)(nd:Prop):zuz (some (.panic v)) as nd H=.pan (nd∧zaD v=true) v (zco as):=rfl
def extΓ(f0:FuncId)(c:List V→Option PR)(Γ:FuncId→List V→Option PR):FuncId→List V→Option PR:=fun f as=>bif f==f0 then c as else Γ f as
def noΓ:FuncId→List V→Option PR:=fun _ _=>none
def zct(f0:FuncId)(c:List V→Hp→Option AR)(Δ:FuncId→List V→Hp→Option AR):FuncId→List V→Hp→Option AR:=fun f as H=>bif f==f0 then c as H else Δ f as H
def noΔ:FuncId→List V→Hp→Option AR:=fun _ _ _=>none
theorem zrl(f0:FuncId)(c:List V→Option PR)(Γ:FuncId→List V→Option PR)(f:FuncId)(as:List V):extΓ f0 c Γ f as=bif f==f0 then c as else Γ f as:=rfl
theorem noΓ_at(f:FuncId)(as:List V):noΓ f as=none:=rfl
theorem zrk(f0:FuncId)(c:List V→Hp→Option AR)(Δ:FuncId→List V→Hp→Option AR)(f:FuncId)(as:List V)(H:Hp):zct f0 c Δ f as H=bif f==f0 then c as H else Δ f as H:=rfl
theorem noΔ_at(f:FuncId)(as:List V)(H:Hp):noΔ f as H=none:=rfl
def zdt(P:Program)(Γ:FuncId→List V→Option PR):Prop:=∀ f args r,Γ f args=some r→PCall P f args r
def zbo(P:Program)(Δ:FuncId→List V→Hp→Option AR):Prop:=∀ f args H r,Δ f args H=some r→HCall P f args H r
theorem zh:zdt P noΓ:=fun _ _ _ h=>by cases h
theorem zg:zbo P noΔ:=fun _ _ _ _ h=>by cases h
theorem zf {f0:FuncId}{c:List V→Option PR}{Γ:FuncId→List V→Option PR}(h:∀ args r,c args=some r→PCall P f0 args r)(hΓ:zdt P Γ):zdt P (extΓ f0 c Γ):=fun f args r e=>by
 rw [zrl]at e;cases hb:f==f0 with
 |true=>rw [hb]at e;simp at hb;subst hb;exact h _ _ e
 |false=>rw [hb]at e;exact hΓ _ _ _ e
theorem zaw {f0:FuncId}{c:List V→Hp→Option AR}{Δ:FuncId→List V→Hp→Option AR}(h:∀ args H r,c args H=some r→HCall P f0 args H r)(hΔ:zbo P Δ):zbo P (zct f0 c Δ):=fun f args H r e=>by
 rw [zrk]at e;cases hb:f==f0 with
 |true=>rw [hb]at e;simp at hb;subst hb;exact h _ _ _ e
 |false=>rw [hb]at e;exact hΔ _ _ _ _ e
end Go.Ab
