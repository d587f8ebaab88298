/- How simp is to walk: small rewrite rules, one an operation; what is looked into first, what is left alone. -/
import Derived.Test.YtbdlfegfepggnaaGreatDoorAbExec
import Derived.Tactics
set_option linter.all false
set_option maxHeartbeats 16000000
set_option maxRecDepth 100000
noncomputable section
namespace Go.Ab
variable {C:Cfg}{P:Program}
def zeg:Env→Nat→V
 |[],_=>.any
 |(k,v)::r,t=>bif t==k then v else zeg r t
theorem zx4(t:Nat):zeg [] t=.any:=rfl
theorem zjB(k:Nat)(v:V)(r:Env)(t:Nat):zeg ((k,v)::r) t=bif t==k then v else zeg r t:=rfl
def zdJ:∀(env:Env)(t:Nat),(env.lookup t).getD .any=zeg env t
 |[],_=>rfl
 |(k,v)::r,t=>by rw[YC,zjB,←zdJ r t];cases t==k<;>rfl
def ev_tmp(env:Env)(t:Nat):ev env (.tmp t)=zeg env t:=zdJ env t
theorem ev_const(env:Env)(v:Value):ev env (.const v)=cv v:=rfl
theorem ev_func(env:Env)(f:FuncId):ev env (.func f)=.fn f []:=rfl
theorem zyV(env:Env)(k:Nat):ev env (.global k)=(match GL k with|some cs=>.fp cs|none=>.any):=rfl
theorem cv_bool(b:Bool):cv (.bool b)=.bool b:=rfl
theorem cv_int(k:IntKind)(n:Int):cv (.int k n)=.int k n:=rfl
theorem cv_str(l:ZL):cv (.string ⟨l.toArray⟩)=.str l:=rfl
theorem cv_nilS:cv (.slice none 0 0)=.nilS:=rfl
theorem cv_nilP:cv (.pointer none)=.nilP:=rfl
theorem cv_nilM:cv (.map none)=.nilM:=rfl
theorem cv_nilF:cv .nilFunc=.nilF:=rfl
theorem cv_nilI:cv .nilIface=.nilI:=rfl
theorem cv_agg(cs:List Value):cv (.agg cs.toArray)=.agg (cs.map cv1):=rfl
theorem cv_tup(cs:List Value):cv (.tuple cs.toArray)=.tup (cs.map cv1):=rfl
theorem cv1_bool(b:Bool):cv1 (.bool b)=.bool b:=rfl
theorem cv1_int(k:IntKind)(n:Int):cv1 (.int k n)=.int k n:=rfl
theorem cv1_str(l:ZL):cv1 (.string ⟨l.toArray⟩)=.str l:=rfl
theorem cv1_nilS:cv1 (.slice none 0 0)=.nilS:=rfl
theorem cv1_nilP:cv1 (.pointer none)=.nilP:=rfl
theorem cv1_nilM:cv1 (.map none)=.nilM:=rfl
theorem cv1_nilF:cv1 .nilFunc=.nilF:=rfl
theorem cv1_nilI:cv1 .nilIface=.nilI:=rfl
theorem vc_bool(b:Bool):V.cond (.bool b)=True:=rfl
theorem vc_int(k:IntKind)(n:Int):V.cond (.int k n)=True:=rfl
theorem vc_str(l:ZL):V.cond (.str l)=True:=rfl
theorem vc_nilS:V.cond .nilS=True:=rfl
theorem vc_sl(b o l s:Nat)(k:Option Nat):V.cond (.sl b o l s k)=True:=rfl
theorem vc_fs(cs:ZA)(n:Nat):V.cond (.fs cs n)=True:=rfl
theorem vc_nilP:V.cond .nilP=True:=rfl
theorem vc_ptr(b o:Nat):V.cond (.ptr b o)=True:=rfl
theorem vc_fp(cs:ZA):V.cond (.fp cs)=True:=rfl
theorem vc_nilM:V.cond .nilM=True:=rfl
theorem vc_map(b:Nat):V.cond (.map b)=True:=rfl
theorem vc_fn(f:FuncId)(cs:ZA):V.cond (.fn f cs)=True:=rfl
theorem vc_nilF:V.cond .nilF=True:=rfl
theorem vc_ifc(t:TypeId)(v:V):V.cond (.ifc t v)=True:=rfl
theorem vc_nilI:V.cond .nilI=True:=rfl
theorem vc_agg(cs:ZA):V.cond (.agg cs)=True:=rfl
theorem vc_tup(cs:ZA):V.cond (.tup cs)=True:=rfl
theorem vc_any:V.cond .any=True:=rfl
theorem vc_opt(b:Bool)(v:V):V.cond (.opt b v)=(b=true):=rfl
theorem vv_bool(b:Bool):V.val (.bool b)=.bool b:=rfl
theorem vv_int(k:IntKind)(n:Int):V.val (.int k n)=.int k n:=rfl
theorem vv_str(l:ZL):V.val (.str l)=.str l:=rfl
theorem vv_nilS:V.val .nilS=.nilS:=rfl
theorem vv_sl(b o l s:Nat)(k:Option Nat):V.val (.sl b o l s k)=.sl b o l s k:=rfl
theorem vv_fs(cs:ZA)(n:Nat):V.val (.fs cs n)=.fs cs n:=rfl
theorem vv_nilP:V.val .nilP=.nilP:=rfl
theorem vv_ptr(b o:Nat):V.val (.ptr b o)=.ptr b o:=rfl
theorem vv_fp(cs:ZA):V.val (.fp cs)=.fp cs:=rfl
theorem vv_nilM:V.val .nilM=.nilM:=rfl
theorem vv_map(b:Nat):V.val (.map b)=.map b:=rfl
theorem vv_fn(f:FuncId)(cs:ZA):V.val (.fn f cs)=.fn f cs:=rfl
theorem vv_nilF:V.val .nilF=.nilF:=rfl
theorem vv_ifc(t:TypeId)(v:V):V.val (.ifc t v)=.ifc t v:=rfl
theorem vv_nilI:V.val .nilI=.nilI:=rfl
theorem vv_agg(cs:ZA):V.val (.agg cs)=.agg cs:=rfl
theorem vv_tup(cs:ZA):V.val (.tup cs)=.tup cs:=rfl
theorem vv_any:V.val .any=.any:=rfl
theorem vv_opt(b:Bool)(v:V):V.val (.opt b v)=v:=rfl
def delE(t:Nat)(env:Env):Env:=env.filter fun p=>p.1 != t
theorem delE_nil(t:Nat):delE t []=[]:=rfl
def zza(t k:Nat)(v:V)(r:Env):delE t ((k,v)::r)=bif k==t then delE t r else(k,v)::delE t r:=by
 unfold delE;rw[YaT];by_cases h:k=t
 ·subst h;simp
 have h1:(k==t)=false:=by simp[h]
 have h2:(k != t)=true:=by simp[h]
 simp[h1];intro e;exact absurd e h
theorem zv3(keep:Nat→Bool):zcs keep []=[]:=rfl
def zsX(keep:Nat→Bool)(t:Nat)(v:V)(r:Env):zcs keep ((t,v)::r)=bif keep t then(t,v)::delE t (zcs keep r)else zcs keep r:=by rw[zcs];cases keep t<;>rfl
def zbE:ZN→Nat→Bool
 |[],_=>false
 |k::r,t=>(t==k)||zbE r t
theorem zyu(t:Nat):zbE [] t=false:=rfl
theorem zuh(k:Nat)(r:ZN)(t:Nat):zbE (k::r) t=((t==k)||zbE r t):=rfl
theorem trim_mk(keep:Nat→Bool)(env:Env)(h:Hp):St.trim ⟨env,h⟩ keep=⟨zcs keep env,h⟩:=rfl
def zL:ZH→Nat→Option Blk
 |[],_=>none
 |(k,x)::r,b=>bif b==k then some x else zL r b
theorem zx5(b:Nat):zL [] b=none:=rfl
theorem zjC(k:Nat)(x:Blk)(r:ZH)(b:Nat):zL ((k,x)::r) b=bif b==k then some x else zL r b:=rfl
def zF:∀(bs:ZH)(b:Nat),bs.lookup b=zL bs b
 |[],_=>rfl
 |(k,v)::r,b=>by rw[YC,zjC,←zF r b];cases b==k<;>rfl
def zdZ(bs:ZH)(n b:Nat):Hp.get ⟨bs,n⟩ b=zL bs b:=zF bs b
def putB:ZH→Nat→Blk→ZH
 |[],_,_=>[]
 |(k,y)::r,b,x=>(bif k==b then(k,x)else(k,y))::putB r b x
theorem putB_nil(b:Nat)(x:Blk):putB [] b x=[]:=rfl
theorem zmM(k:Nat)(y:Blk)(r:ZH)(b:Nat)(x:Blk):putB ((k,y)::r) b x=(bif k==b then(k,x)else(k,y))::putB r b x:=rfl
def zxb:∀(bs:ZH)(b:Nat)(x:Blk),(bs.map fun p=>if p.1==b then(p.1,x)else p)=putB bs b x
 |[],_,_=>rfl
 |(k,v)::r,b,x=>by rw[YN,zmM,zxb r b x];cases h:k==b<;>simp_all
def put_mk(bs:ZH)(n b:Nat)(x:Blk):Hp.put ⟨bs,n⟩ b x=⟨putB bs b x,n⟩:=by rw[←zxb];rfl
def zlb:ZH→Nat→ZH
 |[],_=>[]
 |(k,y)::r,b=>bif k==b then zlb r b else(k,y)::zlb r b
theorem zyr(b:Nat):zlb [] b=[]:=rfl
theorem zjG(k:Nat)(y:Blk)(r:ZH)(b:Nat):zlb ((k,y)::r) b=bif k==b then zlb r b else(k,y)::zlb r b:=rfl
def zrG:∀(bs:ZH)(b:Nat),(bs.filter fun p=>p.1 != b)=zlb bs b
 |[],_=>rfl
 |(k,v)::r,b=>by rw[YaT,zjG,←zrG r b];cases h:k==b<;>simp_all
def zyq(bs:ZH)(n b:Nat):Hp.kill ⟨bs,n⟩ b=⟨zlb bs b,n⟩:=by rw[←zrG];rfl
theorem new_mk(bs:ZH)(n:Nat)(x:Blk):Hp.new ⟨bs,n⟩ x=⟨(n,x)::bs,n+1⟩:=rfl
inductive Fr where
 |seq (y:Code)
 |sem (y:Code)
 |block (id:Nat)
def unst(C:Cfg)(P:Program)(K:Out→St→Prop):List Fr→Out→St→Prop
 |[]=>K
 | .seq y::st=>zgO (fun s=>AXf C P y s (unst C P K st)) (unst C P K st)
 | .sem y::st=>zgO (fun s=>AX C P y s (unst C P K st)) (unst C P K st)
 | .block i::st=>zsC i (unst C P K st)
def zdb(K:Out→St→Prop)(v:V)(s:St):∀st,unst C P K st (.panic v) s=K (.panic v) s
 |[]=>rfl
 | .seq _::st=>zdb K v s st
 | .sem _::st=>zdb K v s st
 | .block _::st=>zdb K v s st
def AXs(C:Cfg)(P:Program)(K:Out→St→Prop)(st:List Fr)(c:Code)(env:Env)(h:Hp):Prop:=AXf C P c ⟨env,h⟩ (unst C P K st)
def AXc(C:Cfg)(P:Program)(K:Out→St→Prop)(st:List Fr)(x y:Code)(b:V)(env:Env)(h:Hp):Prop:=
 match b with
 | .bool b=>if b=true then AXs C P K st x env h else AXs C P K st y env h
 |_=>False
def AXt(C:Cfg)(P:Program)(K:Out→St→Prop)(st:List Fr)(env:Env)(h:Hp):Prop:=AXs C P K st .skip env h
def AXr(C:Cfg)(P:Program)(K:Out→St→Prop)(st:List Fr)(ops:Array Oper)(os:List Oper)(env:Env)(h:Hp):Prop:=ARun C P ops os ⟨env,h⟩ (zb1 C.keep (unst C P K st))
def AXf1(C:Cfg)(P:Program)(K:Out→St→Prop)(st:List Fr)(ops:Array Oper)(os:List Oper)(d:Option Tmp)(r:SR)(env:Env)(h:Hp):Prop:=
 fol C r (fun v h' _=>ARun C P ops os (((⟨env,h⟩:St).put d v).hp h') (zb1 C.keep (unst C P K st))) (fun v=>zb1 C.keep (unst C P K st) (.panic v) ⟨env,h⟩)
def AXg1(C:Cfg)(P:Program)(K:Out→St→Prop)(st:List Fr)(ops:Array Oper)(os:List Oper)(d:Option Tmp)(gb:Option Bool)(r:SR)(env:Env)(h:Hp):Prop:=
 match gb with
 |some gb=>folG C gb r h (fun v h' _=>ARun C P ops os (((⟨env,h⟩:St).put d v).hp h') (zb1 C.keep (unst C P K st))) (fun v=>zb1 C.keep (unst C P K st) (.panic v) ⟨env,h⟩)
 |none=>False
def AXd(C:Cfg)(P:Program)(K:Out→St→Prop)(st:List Fr)(ops:Array Oper)(os:List Oper)(i:Nat)(acc:List (Nat×Foot))(env:Env)(h:Hp):Prop:=DRun C P ops os i ⟨env,h⟩ acc (zb1 C.keep (unst C P K st))
def AXf2(C:Cfg)(P:Program)(K:Out→St→Prop)(st:List Fr)(ops:Array Oper)(os:List Oper)(i:Nat)(d:Option Tmp)(r:SR)(acc:List (Nat×Foot))(env:Env)(h:Hp):Prop:=
 fol C r (fun v h' f=>DRun C P ops os (i+1) (((⟨env,h⟩:St).put d v).hp h') (accF acc i f) (zb1 C.keep (unst C P K st))) (fun v=>ze1 ops i=true∧chk ops acc=true∧zb1 C.keep (unst C P K st) (.panic v) ⟨env,h⟩)
def AXg2(C:Cfg)(P:Program)(K:Out→St→Prop)(st:List Fr)(ops:Array Oper)(os:List Oper)(i:Nat)(d:Option Tmp)(gb:Option Bool)(r:SR)(acc:List (Nat×Foot))(env:Env)(h:Hp):Prop:=
 match gb with
 |some gb=>folG C gb r h (fun v h' f=>DRun C P ops os (i+1) (((⟨env,h⟩:St).put d v).hp h') (accF acc i f) (zb1 C.keep (unst C P K st))) (fun v=>ze1 ops i=true∧chk ops acc=true∧zb1 C.keep (unst C P K st) (.panic v) ⟨env,h⟩)
 |none=>False
def AXk(C:Cfg)(P:Program)(K:Out→St→Prop)(st:List Fr)(ops:Array Oper)(acc:List (Nat×Foot))(env:Env)(h:Hp):Prop:=chk ops acc=true∧AXt C P K st (zcs C.keep env) h
variable {K:Out→St→Prop}{st:List Fr}{ops:Array Oper}{os:List Oper}{env:Env}{h:Hp}
@[congr]theorem AXs_congr {c:Code}{env':Env}{h':Hp}(e:env=env')(e':h=h'):AXs C P K st c env h=AXs C P K st c env' h':=by rw[e,e']
@[congr]theorem AXc_congr {x y:Code}{b b':V}{env':Env}{h':Hp}(eb:b=b')(e:env=env')(e':h=h'):AXc C P K st x y b env h=AXc C P K st x y b' env' h':=by rw[eb,e,e']
@[congr]theorem AXt_congr {env':Env}{h':Hp}(e:env=env')(e':h=h'):AXt C P K st env h=AXt C P K st env' h':=by rw[e,e']
@[congr]theorem AXf1_congr {d:Option Tmp}{r r':SR}(e:r=r'):AXf1 C P K st ops os d r env h=AXf1 C P K st ops os d r' env h:=by rw[e]
@[congr]theorem AXg1_congr {d:Option Tmp}{gb gb':Option Bool}{r r':SR}(eb:gb=gb')(e:r=r'):AXg1 C P K st ops os d gb r env h=AXg1 C P K st ops os d gb' r' env h:=by rw[e,eb]
@[congr]theorem AXf2_congr {i:Nat}{d:Option Tmp}{r r':SR}{acc:List (Nat×Foot)}(e:r=r'):AXf2 C P K st ops os i d r acc env h=AXf2 C P K st ops os i d r' acc env h:=by rw[e]
@[congr]theorem AXg2_congr {i:Nat}{d:Option Tmp}{gb gb':Option Bool}{r r':SR}{acc:List (Nat×Foot)}(eb:gb=gb')(e:r=r'):AXg2 C P K st ops os i d gb r acc env h=AXg2 C P K st ops os i d gb' r' acc env h:=by rw[e,eb]
@[congr]theorem AXk_congr {acc acc':List (Nat×Foot)}(ea:acc=acc'):AXk C P K st ops acc env h=AXk C P K st ops acc' env h:=by rw[ea]
theorem AXs.of {c:Code}{s:St}(h:AXs C P K [] c s.env s.h):AXf C P c s K:=h
def AXp(C:Cfg)(P:Program)(K:Out→St→Prop)(st:List Fr)(x y:Code)(b:Bool)(env:Env)(h:Hp):Prop:=AXs C P K ((if b=true then .sem y else .seq y)::st) x env h
@[congr]theorem AXp_congr {x y:Code}{b b':Bool}(e:b=b'):AXp C P K st x y b env h=AXp C P K st x y b' env h:=by rw[e]
theorem axs_seq(x y:Code):AXs C P K st (.seq x y) env h=AXp C P K st x y (zbw x) env h:=by unfold AXp AXs;rw[AXf];cases zbw x<;>rfl
theorem zAU(x y:Code):AXp C P K st x y false env h=AXs C P K (.seq y::st) x env h:=rfl
theorem axp_true(x y:Code):AXp C P K st x y true env h=AXs C P K (.sem y::st) x env h:=rfl
theorem zpy(x:Code):zbw (.loop x)=true:=rfl
theorem znb(i:Nat)(x:Code):zbw (.block i x)=zbw x:=rfl
theorem zuj(x y:Code):zbw (.seq x y)=zbw y:=rfl
theorem zpA(c:Operand)(x y:Code):zbw (.cond c x y)=(zbw x||zbw y):=rfl
theorem zle(i:Nat)(o:Array Oper)(d:Bool):zbw (.region i o d)=false:=rfl
theorem zpx:zbw .skip=false:=rfl
theorem zuk:zbw .ret=false:=rfl
theorem zpz(i:Nat):zbw (.exit i)=false:=rfl
def AXa(C:Cfg)(P:Program)(K:Out→St→Prop)(st:List Fr)(y:Code)(env:Env)(h:Hp):Prop:=AX C P y ⟨env,h⟩ (unst C P K st)
theorem zoc(y:Code):AXs C P K (.sem y::st) .skip env h=AXa C P K st y env h:=rfl
theorem zof(i:Nat)(y:Code):AXs C P K (.sem y::st) (.exit i) env h=AXs C P K st (.exit i) env h:=rfl
theorem zqq(y:Code):AXs C P K (.sem y::st) .ret env h=AXs C P K st .ret env h:=rfl
def AXa.go {y:Code}(hm:P.follows .mixedOrders=true)(hΓ:∀f args r,C.Γ f args=some r→PCall P f args r)(hΔ:∀f args H r,C.Δ f args H=some r→HCall P f args H r)(hok:zas C.nt y=true)(hx:AXs C P K st y env h):AXa C P K st y env h:=
 zc5 hm ⟨hΓ,hΔ⟩ y _ _ hok hx
def AXa.sub {y:Code}{env':Env}{h':Hp}(hs:Sub C ⟨env,h⟩ ⟨env',h'⟩)(hx:AXa C P K st y env' h'):AXa C P K st y env h:=AX.sub hs hx
def AXa.freeze {y:Code}{env':Env}{h':Hp}{F:Nat→Prop}(hW:C.Wm=[])(hs:Fz C.nx F ⟨env,h⟩ ⟨env',h'⟩)(hx:AXa C P K st y env' h'):AXa C P K st y env h:=AX.freeze hW hs hx
theorem zAS(i:Nat)(x:Code):AXs C P K st (.block i x) env h=AXs C P K (.block i::st) x env h:=rfl
theorem zob(y:Code):AXs C P K (.seq y::st) .skip env h=AXs C P K st y env h:=rfl
theorem zjb(i:Nat):AXs C P K (.block i::st) .skip env h=AXs C P K st .skip env h:=rfl
theorem zod:AXs C P K [] .skip env h=K .norm ⟨env,h⟩:=rfl
theorem zoe(i:Nat)(y:Code):AXs C P K (.seq y::st) (.exit i) env h=AXs C P K st (.exit i) env h:=rfl
theorem zjc(i j:Nat):AXs C P K (.block j::st) (.exit i) env h=if i=j then AXs C P K st .skip env h else AXs C P K st (.exit i) env h:=rfl
theorem zog(i:Nat):AXs C P K [] (.exit i) env h=K (.exit i) ⟨env,h⟩:=rfl
theorem zqp(y:Code):AXs C P K (.seq y::st) .ret env h=AXs C P K st .ret env h:=rfl
theorem zlW(i:Nat):AXs C P K (.block i::st) .ret env h=AXs C P K st .ret env h:=rfl
theorem zqr:AXs C P K [] .ret env h=K .ret ⟨env,h⟩:=rfl
def axs_cond(c:Operand)(x y:Code):AXs C P K st (.cond c x y) env h=AXc C P K st x y (ev env c) env h:=by unfold AXs AXc AXf;rfl
def AXm(C:Cfg)(P:Program)(K:Out→St→Prop)(st:List Fr)(os:List Oper)(n:Option (Option Tmp×Operand×List Oper))(env:Env)(h:Hp):Prop:=ARunN C P ⟨os⟩ n ⟨env,h⟩ (zb1 C.keep (unst C P K st))
def AXw(C:Cfg)(P:Program)(K:Out→St→Prop)(st:List Fr)(ops:Array Oper)(os:List Oper)(d:Option Tmp)(c:Prop)(x:V)(env:Env)(h:Hp):Prop:=ANext C P ops os d c (zj8 x h) ⟨env,h⟩ (zb1 C.keep (unst C P K st))
def AXl(C:Cfg)(P:Program)(K:Out→St→Prop)(st:List Fr)(os:List Oper)(n:Option (Nat×Op×Nat))(env:Env)(h:Hp):Prop:=DRunN C P ⟨os⟩ n ⟨env,h⟩ (zb1 C.keep (unst C P K st))
def AXe(C:Cfg)(P:Program)(K:Out→St→Prop)(st:List Fr)(ops:Array Oper)(i0:Nat)(op0:Op)(j0:Nat)(os:List Oper)(i:Nat)(acc:List (Nat×Foot))(r:Option LK)(env:Env)(h:Hp):Prop:=
 zBz C P ops i0 op0 j0 os i ⟨env,h⟩ acc r (zb1 C.keep (unst C P K st))
def lateA(b:Bool)(W:ZN)(h' h:Hp):Prop:=match b with|true=>W=[]∧h'=h|false=>True
def lateB1(b:Bool)(C:Cfg)(P:Program)(op0:Op)(r:Option LK)(h:Hp)(f:Foot):Prop:=match b with|true=>(match r with|some r=>zsD C P op0 r h f|none=>False)|false=>True
def lateR(b:Bool)(env:Env)(h:Hp)(v:V)(f:Foot)(r:Option LK):Option LK:=match b with|true=>some ⟨⟨env,h⟩,v,f⟩|false=>r
@[congr]theorem AXm_congr {n n':Option (Option Tmp×Operand×List Oper)}(e:n=n'):AXm C P K st os n env h=AXm C P K st os n' env h:=by rw[e]
theorem axs_run(i:Nat)(os:List Oper):AXs C P K st (.region i ⟨os⟩ false) env h=AXm C P K st os (zfD os) env h:=rfl
theorem axs_draw(i:Nat)(os:List Oper):AXs C P K st (.region i ⟨os⟩ true) env h=AXl C P K st os (zfF os) env h:=rfl
theorem axm_none:AXm C P K st os none env h=AXr C P K st ⟨os⟩ os env h:=rfl
theorem axm_some(d:Option Tmp)(it:Operand)(r:List Oper):AXm C P K st os (some (d,it,r)) env h=AXw C P K st ⟨os⟩ r d (ev env it).cond (rho env it) env h:=rfl
theorem axl_none:AXl C P K st os none env h=AXd C P K st ⟨os⟩ os 0 [] env h:=rfl
theorem axl_some(i0:Nat)(op0:Op)(j0:Nat):AXl C P K st os (some (i0,op0,j0)) env h=AXe C P K st ⟨os⟩ i0 op0 j0 os 0 [] none env h:=rfl
theorem ztO:zfD []=none:=rfl
def zT:Op→Bool
 | .next _ _=>false
 |_=>true
def nextX:=@zfD
theorem ztN(dst:Option Tmp)(it:Operand)(type:TypeId)(pos:String)(after:Array Edge)(r:List Oper):nextX ({ dst,op:=.next it false,type,pos,after,guard:=none }::r)=some (dst,it,r):=rfl
theorem zpk(dst:Option Tmp)(it:Operand)(type:TypeId)(pos:String)(after:Array Edge)(r:List Oper)(g:Option (Nat×Bool)):nextX ({ dst,op:=.next it true,type,pos,after,guard:=g }::r)=none:=rfl
theorem zmU(a b):zT (.next a b)=false:=rfl
def zpl(dst:Option Tmp)(op:Op)(type:TypeId)(pos:String)(after:Array Edge)(g:Option (Nat×Bool))(r:List Oper):zfD ({ dst,op,type,pos,after,guard:=g }::r)=bif zT op then none else nextX ({ dst,op,type,pos,after,guard:=g }::r):=by
 cases h:zT op with
 |false=>rfl
 |true=>
  unfold zfD;cases op<;>first|rfl|cases h
theorem zyD(a):isEn (.move a)=false:=rfl
theorem zyy(a):isLk (.move a)=false:=rfl
theorem zmV(a):zT (.move a)=true:=rfl
theorem zpG(a):isEn (.assign a)=false:=rfl
theorem zpD(a):isLk (.assign a)=false:=rfl
theorem ziW(a):zT (.assign a)=true:=rfl
theorem zyC(a)(b)(c):isEn (.pick a b c)=false:=rfl
theorem zyx(a)(b)(c):isLk (.pick a b c)=false:=rfl
theorem zmT(a)(b)(c):zT (.pick a b c)=true:=rfl
theorem zuI(a):isEn (.alloc a)=false:=rfl
theorem zuw(a):isLk (.alloc a)=false:=rfl
theorem zk8(a):zT (.alloc a)=true:=rfl
theorem isEn_box(a)(b):isEn (.box a b)=false:=rfl
theorem isLk_box(a)(b):isLk (.box a b)=false:=rfl
theorem zpj(a)(b):zT (.box a b)=true:=rfl
theorem zuG(a)(b):isEn (.build a b)=false:=rfl
theorem zuu(a)(b):isLk (.build a b)=false:=rfl
theorem zk6(a)(b):zT (.build a b)=true:=rfl
theorem zh8(a)(b)(c):isEn (.buildSlice a b c)=false:=rfl
theorem zh5(a)(b)(c):isLk (.buildSlice a b c)=false:=rfl
theorem zfC(a)(b)(c):zT (.buildSlice a b c)=true:=rfl
theorem zpF(a)(b)(c)(d):isEn (.insert a b c d)=false:=rfl
theorem zpC(a)(b)(c)(d):isLk (.insert a b c d)=false:=rfl
theorem ziV(a)(b)(c)(d):zT (.insert a b c d)=true:=rfl
theorem zyE(a)(b):isEn (.load a b)=false:=rfl
theorem zyz(a)(b):isLk (.load a b)=false:=rfl
theorem zmW(a)(b):zT (.load a b)=true:=rfl
theorem zuy(a)(b)(c):isEn (.store a b c)=false:=rfl
theorem zum(a)(b)(c):isLk (.store a b c)=false:=rfl
theorem zkY(a)(b)(c):zT (.store a b c)=true:=rfl
theorem zuA(a):isEn (.ready a)=false:=rfl
theorem zuo(a):isLk (.ready a)=false:=rfl
theorem zk0(a):zT (.ready a)=true:=rfl
theorem zux(a):isEn (.waits a)=false:=rfl
theorem zul(a):isLk (.waits a)=false:=rfl
theorem zkX(a):zT (.waits a)=true:=rfl
theorem zlj(a):isEn (.nilCheck a)=false:=rfl
theorem zlf(a):isLk (.nilCheck a)=false:=rfl
theorem zgJ(a):zT (.nilCheck a)=true:=rfl
theorem zuH(a)(b)(c)(d)(e):isEn (.binOp a b c d e)=false:=rfl
theorem zuv(a)(b)(c)(d)(e):isLk (.binOp a b c d e)=false:=rfl
theorem zk7(a)(b)(c)(d)(e):zT (.binOp a b c d e)=true:=rfl
theorem zyB(a)(b)(c):isEn (.unOp a b c)=false:=rfl
theorem zyw(a)(b)(c):isLk (.unOp a b c)=false:=rfl
theorem zmS(a)(b)(c):zT (.unOp a b c)=true:=rfl
theorem znj(a)(b)(c):isEn (.convert a b c)=false:=rfl
theorem znf(a)(b)(c):isLk (.convert a b c)=false:=rfl
theorem zhS(a)(b)(c):zT (.convert a b c)=true:=rfl
theorem zdn(a)(b):isEn (.sliceToArrayPointer a b)=false:=rfl
theorem zdm(a)(b):isLk (.sliceToArrayPointer a b)=false:=rfl
theorem zcI(a)(b):zT (.sliceToArrayPointer a b)=true:=rfl
theorem zfI(a)(b):isEn (.makeInterface a b)=false:=rfl
theorem zfH(a)(b):isLk (.makeInterface a b)=false:=rfl
theorem zef(a)(b):zT (.makeInterface a b)=true:=rfl
theorem zll(a)(b)(c):isEn (.makeFunc a b c)=false:=rfl
theorem zlh(a)(b)(c):isLk (.makeFunc a b c)=false:=rfl
theorem zgL(a)(b)(c):zT (.makeFunc a b c)=true:=rfl
theorem znh(a)(b):isEn (.makeMap a b)=false:=rfl
theorem znc(a)(b):isLk (.makeMap a b)=false:=rfl
theorem zhQ(a)(b):zT (.makeMap a b)=true:=rfl
theorem zlm(a)(b):isEn (.makeChan a b)=false:=rfl
theorem zli(a)(b):isLk (.makeChan a b)=false:=rfl
theorem zgM(a)(b):zT (.makeChan a b)=true:=rfl
theorem zi4(a)(b)(c):isEn (.makeSlice a b c)=false:=rfl
theorem zi0(a)(b)(c):isLk (.makeSlice a b c)=false:=rfl
theorem zge(a)(b)(c):zT (.makeSlice a b c)=true:=rfl
theorem zuz(a)(b)(c)(d)(e):isEn (.slice a b c d e)=false:=rfl
theorem zun(a)(b)(c)(d)(e):isLk (.slice a b c d e)=false:=rfl
theorem zkZ(a)(b)(c)(d)(e):zT (.slice a b c d e)=true:=rfl
theorem zi6(a)(b)(c):isEn (.fieldAddr a b c)=false:=rfl
theorem zi2(a)(b)(c):isLk (.fieldAddr a b c)=false:=rfl
theorem zgg(a)(b)(c):zT (.fieldAddr a b c)=true:=rfl
theorem zuE(a)(b)(c):isEn (.field a b c)=false:=rfl
theorem zus(a)(b)(c):isLk (.field a b c)=false:=rfl
theorem zk4(a)(b)(c):zT (.field a b c)=true:=rfl
theorem zi5(a)(b)(c):isEn (.indexAddr a b c)=false:=rfl
theorem zi1(a)(b)(c):isLk (.indexAddr a b c)=false:=rfl
theorem zgf(a)(b)(c):zT (.indexAddr a b c)=true:=rfl
theorem zuD(a)(b)(c):isEn (.index a b c)=false:=rfl
theorem zur(a)(b)(c):isLk (.index a b c)=false:=rfl
theorem zk3(a)(b)(c):zT (.index a b c)=true:=rfl
theorem zi3(a)(b)(c)(d):isEn (.mapUpdate a b c d)=false:=rfl
theorem ziZ(a)(b)(c)(d):isLk (.mapUpdate a b c d)=false:=rfl
theorem zgd(a)(b)(c)(d):zT (.mapUpdate a b c d)=true:=rfl
theorem zlk(a)(b)(c):isEn (.mapEntry a b c)=true:=rfl
theorem zlg(a)(b)(c):isLk (.mapEntry a b c)=false:=rfl
theorem zgK(a)(b)(c):zT (.mapEntry a b c)=true:=rfl
theorem zh7(a)(b)(c)(d):isEn (.entryStore a b c d)=false:=rfl
theorem zh4(a)(b)(c)(d):isLk (.entryStore a b c d)=false:=rfl
theorem zfB(a)(b)(c)(d):zT (.entryStore a b c d)=true:=rfl
theorem zuB(a)(b):isEn (.range a b)=false:=rfl
theorem zup(a)(b):isLk (.range a b)=false:=rfl
theorem zk1(a)(b):zT (.range a b)=true:=rfl
theorem zuF(a):isEn (.entry a)=false:=rfl
theorem zut(a):isLk (.entry a)=false:=rfl
theorem zk5(a):zT (.entry a)=true:=rfl
theorem zh6(a)(b)(c)(d):isEn (.typeAssert a b c d)=false:=rfl
theorem zh3(a)(b)(c)(d):isLk (.typeAssert a b c d)=false:=rfl
theorem zfA(a)(b)(c)(d):zT (.typeAssert a b c d)=true:=rfl
theorem zni(a)(b):isEn (.extract a b)=false:=rfl
theorem zne(a)(b):isLk (.extract a b)=false:=rfl
theorem zhR(a)(b):zT (.extract a b)=true:=rfl
theorem zyF(a):isEn (.call a)=false:=rfl
theorem zyA(a):isLk (.call a)=false:=rfl
theorem zmX(a):zT (.call a)=true:=rfl
theorem zuC(a):isEn (.panic a)=false:=rfl
theorem zuq(a):isLk (.panic a)=false:=rfl
theorem zk2(a):zT (.panic a)=true:=rfl
theorem zpE(a b c d):isEn (.lookup a b c d)=false:=rfl
theorem zpB(a b c):isLk (.lookup a b c false)=true:=rfl
theorem znd(a b c):isLk (.lookup a b c true)=false:=rfl
theorem ziU(a b c d):zT (.lookup a b c d)=true:=rfl
theorem zpv(os:List Oper):zfF os=match ziX os 0 with|none=>none|some j=>ziY os 0 none j:=rfl
theorem zyj(j:Nat):ziX [] j=none:=rfl
def zua(dst:Option Tmp)(op:Op)(type:TypeId)(pos:String)(after:Array Edge)(g:Option (Nat×Bool))(r:List Oper)(j:Nat):ziX ({ dst,op,type,pos,after,guard:=g }::r) j=bif isEn op then some j else ziX r (j+1):=by
 show (match isEn op with|true=>_|false=>_)=_;cases isEn op<;>rfl
theorem zyl(i:Nat)(x:Option Op)(j:Nat):ziY [] i x j=none:=rfl
def zsy(x y:Code):AXc C P K st x y (.bool true) env h=AXs C P K st x env h:=by simp[AXc]
def zol(x y:Code):AXc C P K st x y (.bool false) env h=AXs C P K st y env h:=by simp[AXc]
def AXc.intro {x y:Code}{b:Bool}(h1:b=true→AXs C P K st x env h)(h2:b=false→AXs C P K st y env h):AXc C P K st x y (.bool b) env h:=by
 cases b with
 |true=>rw[zsy];exact h1 rfl
 |false=>rw[zol];exact h2 rfl
theorem axt_eq:AXt C P K st env h=AXs C P K st .skip env h:=rfl
theorem axr_nil:AXr C P K st ops [] env h=AXt C P K st (zcs C.keep env) h:=rfl
theorem axr_cons(dst:Option Tmp)(op:Op)(type:TypeId)(pos:String)(after:Array Edge):AXr C P K st ops ({ dst,op,type,pos,after,guard:=none }::os) env h=AXf1 C P K st ops os dst (step1 C P env op h) env h:=rfl
theorem zA3(d:Tmp)(b:Bool)(pre:Prop)(v:V)(h':Hp)(R W:ZN)(lo hi:Nat):AXf1 C P K st ops os (some d) (.ok b pre v h' ⟨R,W,lo,hi⟩) env h=(pre∧wok C W=true∧AXr C P K st ops os ((d,v)::env) h'):=rfl
theorem zA4(b:Bool)(pre:Prop)(v:V)(h':Hp)(R W:ZN)(lo hi:Nat):AXf1 C P K st ops os none (.ok b pre v h' ⟨R,W,lo,hi⟩) env h=(pre∧wok C W=true∧AXr C P K st ops os env h'):=rfl
def getO:List Oper→Nat→Option Tmp
 |[],_=>none
 |o::r,i=>bif i==0 then o.dst else getO r (i-1)
theorem znn(o:Oper)(r:List Oper)(i:Nat):getO (o::r) i=bif i==0 then o.dst else getO r (i-1):=rfl
def zyP:∀(os:List Oper)(i:Nat),(os[i]?).bind (·.dst)=getO os i
 |[],_=>rfl
 |o::r,0=>rfl
 |o::r,i+1=>by rw[YaI,zyP r i,znn];rfl
def zjJ(v:V)(want:Bool):Option Bool:=
 match v with
 | .bool b=>some (b==want)
 | .opt c (.bool b)=>some (c&&(b==want))
 | .opt false _=>some false
 | .tup []=>some false
 |_=>none
def guardV_t(b:Bool):zjJ (.bool b) true=some b:=by cases b<;>rfl
def guardV_f(b:Bool):zjJ (.bool b) false=some (!b):=by cases b<;>rfl
def zyM(c b:Bool):zjJ (.opt c (.bool b)) true=some (c&&b):=by cases b<;>rfl
def zyN(c b:Bool):zjJ (.opt c (.bool b)) false=some (c&& !b):=by cases b<;>rfl
def znm(o:Option Tmp)(env:Env)(want:Bool):Option Bool:=
 match o with
 |some d=>zjJ (zeg env d) want
 |none=>none
theorem zpL(d:Tmp)(env:Env)(want:Bool):znm (some d) env want=zjJ (zeg env d) want:=rfl
def zyL(os:List Oper)(env:Env)(o:Oper)(j:Nat)(want:Bool)(hg:o.guard=some (j,want)):gval ⟨os⟩ env o=znm (getO os j) env want:=by
 unfold gval;rw[hg];have e:((⟨os⟩:Array Oper)[j]?).bind (·.dst)=getO os j:=by rw[←zyP];simp
 simp only[e];unfold znm;cases hd:getO os j with
 |none=>rfl
 |some d=>
  simp only[];rw[←zdJ];cases env.lookup d with
  |none=>rfl
  |some v=>
   cases v with
   |opt c v=>cases v<;>cases c<;>rfl
   |tup l=>cases l<;>rfl
   |_=>rfl
def zAT(os0:List Oper)(dst:Option Tmp)(op:Op)(type:TypeId)(pos:String)(after:Array Edge)(j:Nat)(want:Bool):AXr C P K st ⟨os0⟩ ({ dst,op,type,pos,after,guard:=some (j,want) }::os) env h=AXg1 C P K st ⟨os0⟩ os dst (znm (getO os0 j) env want) (step1 C P env op h) env h:=by rw[←zyL os0 env { dst,op,type,pos,after,guard:=some (j,want) } j want rfl];unfold AXr AXg1;rfl
theorem zAY(d:Tmp)(gb:Bool)(pre:Prop)(v:V)(h':Hp)(R W:ZN)(lo hi:Nat):AXg1 C P K st ops os (some d) (some gb) (.ok true pre v h' ⟨R,W,lo,hi⟩) env h=((gb=true→pre)∧AXr C P K st ops os ((d,.opt gb v)::env) h):=rfl
theorem zAZ(gb:Bool)(pre:Prop)(v:V)(h':Hp)(R W:ZN)(lo hi:Nat):AXg1 C P K st ops os none (some gb) (.ok true pre v h' ⟨R,W,lo,hi⟩) env h=((gb=true→pre)∧AXr C P K st ops os env h):=rfl
def AXg1.pan {d:Tmp}{gb:Bool}{pre:Prop}{v:V}{R:ZN}(h1:gb=true→pre∧K (.panic v) ⟨env,h⟩)(h2:gb=false→AXr C P K st ops os ((d,undefV)::env) h):AXg1 C P K st ops os (some d) (some gb) (.pan pre v R) env h:=by
 show (if gb=true then(pre∧unst C P K st (.panic v) _)else _);cases gb with
 |true=>rw[Yi rfl,zdb];exact h1 rfl
 |false=>rw[Yh Zs];exact h2 rfl
def zoi(d:Tmp)(pre:Prop)(v:V)(h':Hp)(f:Foot):AXg1 C P K st ops os (some d) (some true) (.ok false pre v h' f) env h=(pre∧wok C f.W=true∧AXr C P K st ops os ((d,v)::env) h'):=by simp[AXg1,folG,AXr,St.put,St.hp]
def zoj(d:Tmp)(pre:Prop)(v:V)(h':Hp)(f:Foot):AXg1 C P K st ops os (some d) (some false) (.ok false pre v h' f) env h=AXr C P K st ops os ((d,undefV)::env) h:=by simp[AXg1,folG,AXr,St.put,St.hp]
theorem axd_nil(i:Nat)(acc:List (Nat×Foot)):AXd C P K st ops [] i acc env h=AXk C P K st ops acc env h:=rfl
theorem axd_cons(dst:Option Tmp)(op:Op)(type:TypeId)(pos:String)(after:Array Edge)(i:Nat)(acc:List (Nat×Foot)):AXd C P K st ops ({ dst,op,type,pos,after,guard:=none }::os) i acc env h=AXf2 C P K st ops os i dst (step1 C P env op h) acc env h:=rfl
def zA5(os0:List Oper)(dst:Option Tmp)(op:Op)(type:TypeId)(pos:String)(after:Array Edge)(j:Nat)(want:Bool)(i:Nat)(acc:List (Nat×Foot)):AXd C P K st ⟨os0⟩ ({ dst,op,type,pos,after,guard:=some (j,want) }::os) i acc env h=AXg2 C P K st ⟨os0⟩ os i dst (znm (getO os0 j) env want) (step1 C P env op h) acc env h:=by rw[←zyL os0 env { dst,op,type,pos,after,guard:=some (j,want) } j want rfl];unfold AXd AXg2;rfl
def accM(acc:List (Nat×Foot))(i:Nat)(R W:ZN)(lo hi:Nat):List (Nat×Foot):=bif R.isEmpty&&W.isEmpty&&lo==hi then acc else(i,⟨R,W,lo,hi⟩)::acc
def zlZ(acc:List (Nat×Foot))(i:Nat)(R W:ZN)(lo hi:Nat):accF acc i ⟨R,W,lo,hi⟩=accM acc i R W lo hi:=by unfold accF Foot.idle accM;cases (R.isEmpty&&W.isEmpty&&lo==hi)<;>rfl
theorem zBm(acc:List (Nat×Foot))(i lo hi:Nat):accM acc i [] [] lo hi=bif lo==hi then acc else(i,⟨[],[],lo,hi⟩)::acc:=rfl
theorem accM_r(acc:List (Nat×Foot))(i b:Nat)(R W:ZN)(lo hi:Nat):accM acc i (b::R) W lo hi=(i,⟨b::R,W,lo,hi⟩)::acc:=rfl
theorem accM_w(acc:List (Nat×Foot))(i b:Nat)(W:ZN)(lo hi:Nat):accM acc i [] (b::W) lo hi=(i,⟨[],b::W,lo,hi⟩)::acc:=rfl
def zA1(i:Nat)(d:Tmp)(b:Bool)(pre:Prop)(v:V)(h':Hp)(R W:ZN)(lo hi:Nat)(acc:List (Nat×Foot)):AXf2 C P K st ops os i (some d) (.ok b pre v h' ⟨R,W,lo,hi⟩) acc env h=(pre∧wok C W=true∧AXd C P K st ops os (i+1) (accM acc i R W lo hi) ((d,v)::env) h'):=by rw[←zlZ];rfl
def zA2(i:Nat)(b:Bool)(pre:Prop)(v:V)(h':Hp)(R W:ZN)(lo hi:Nat)(acc:List (Nat×Foot)):AXf2 C P K st ops os i none (.ok b pre v h' ⟨R,W,lo,hi⟩) acc env h=(pre∧wok C W=true∧AXd C P K st ops os (i+1) (accM acc i R W lo hi) env h'):=by rw[←zlZ];rfl
theorem axe_nil(i0:Nat)(op0:Op)(j0:Nat)(i:Nat)(acc:List (Nat×Foot))(l:Option LK):AXe C P K st ops i0 op0 j0 [] i acc l env h=(chkX ops i0 j0 acc=true∧AXt C P K st (zcs C.keep env) h):=rfl
theorem lateA_f(W:ZN)(h' h:Hp):lateA false W h' h=True:=rfl
theorem lateA_t(W:ZN)(h' h:Hp):lateA true W h' h=(W=[]∧h'=h):=rfl
theorem lateB_f(op0:Op)(r:Option LK)(h:Hp)(f:Foot):lateB1 false C P op0 r h f=True:=rfl
theorem lateR_f(env:Env)(h:Hp)(v:V)(f:Foot)(r:Option LK):lateR false env h v f r=r:=rfl
theorem lateR_t(env:Env)(h:Hp)(v:V)(f:Foot)(r:Option LK):lateR true env h v f r=some ⟨⟨env,h⟩,v,f⟩:=rfl
theorem lateK_ok(b:Bool)(pre:Prop)(v v':V)(h h':Hp)(f f':Foot):LateK (.ok b pre v' h' f') h v f=(pre∧v'=v∧h'=h∧f'=f):=rfl
def zAW(i:Nat)(d:Tmp)(gb:Bool)(pre:Prop)(v:V)(h':Hp)(R W:ZN)(lo hi:Nat)(acc:List (Nat×Foot)):AXg2 C P K st ops os i (some d) (some gb) (.ok true pre v h' ⟨R,W,lo,hi⟩) acc env h=((gb=true→pre)∧AXd C P K st ops os (i+1) (accM acc i R [] 0 0) ((d,.opt gb v)::env) h):=by rw[←zlZ];rfl
def AXg2.pan {i:Nat}{d:Tmp}{gb:Bool}{pre:Prop}{v:V}{R:ZN}{acc:List (Nat×Foot)}(h1:gb=true→pre∧ze1 ops i=true∧chk ops acc=true∧K (.panic v) ⟨env,h⟩) (h2:gb=false→AXd C P K st ops os (i+1) (accF acc i ⟨[],[],0,0⟩) ((d,undefV)::env) h):AXg2 C P K st ops os i (some d) (some gb) (.pan pre v R) acc env h:=by
 show (if gb=true then(pre∧ze1 ops i=true∧chk ops acc=true∧unst C P K st (.panic v) _)else _);cases gb with
 |true=>rw[Yi rfl,zdb];exact h1 rfl
 |false=>rw[Yh Zs];exact h2 rfl
def axk_nil:AXk C P K st ops [] env h=AXt C P K st (zcs C.keep env) h:=by show (chk ops []=true∧_)=_;simp[chk]
def AXk.intro {acc:List (Nat×Foot)}(h1:chk ops acc=true)(h2:AXt C P K st (zcs C.keep env) h):AXk C P K st ops acc env h:=⟨h1,h2⟩
def zgv:List (Nat×Foot)→Bool
 |[]=>true
 |(_,f)::r=>f.still&&zgv r
def zs6 {acc:List (Nat×Foot)}(hs:zgv acc=true):chk ops acc=true:=by
 have:∀acc:List (Nat×Foot),zgv acc=true→(acc.all fun p=>p.2.still)=true:=by
  intro acc;induction acc with
  |nil=>intro _;rfl
  |cons p r ih=>intro e;obtain⟨i,f⟩:=p;simp only[zgv,Yg]at e;simp[e.1,ih e.2]
 simp[chk,this acc hs]
def zAV {acc:List (Nat×Foot)}(hs:zgv acc=true):AXk C P K st ops acc env h=AXt C P K st (zcs C.keep env) h:=by show (chk ops acc=true∧_)=_;simp[zs6 hs]
theorem zs5:zgv []=true:=rfl
theorem zoH(i:Nat)(R W:ZN)(lo hi:Nat)(r:List (Nat×Foot)):zgv ((i,⟨R,W,lo,hi⟩)::r)=(W.isEmpty&&lo==hi&&zgv r):=rfl
theorem wok_nil:wok C []=true:=rfl
theorem wok_cons(b:Nat)(W:ZN):wok C (b::W)=((decide (C.nx≤b)||C.Wm.contains b)&&wok C W):=rfl
def mkSR(st:Bool)(c:Prop)(r:AR)(H:Hp):SR:=.ok st (c∧r.pre) r.v r.h ⟨r.R,r.W,H.next,r.h.next⟩
@[congr]theorem mkSR_congr {st:Bool}{c c':Prop}{r r':AR}{H:Hp}(hc:c=c')(hr:r=r'):mkSR st c r H=mkSR st c' r' H:=by rw[hc,hr]
theorem mkSR_mk(st:Bool)(c p:Prop)(v:V)(h:Hp)(R W:ZN)(H:Hp):mkSR st c ⟨p,v,h,R,W⟩ H=.ok st (c∧p) v h ⟨R,W,H.next,h.next⟩:=rfl
theorem next_mk(bs:ZH)(n:Nat):Hp.next ⟨bs,n⟩=n:=rfl
def zaa {op:Op}{env:Env}{H:Hp}{c:Prop}{r:AR}(h1:step1 C P env op H=.ok (zeU op) (needs (op.operands.toList.map (ev env))∧(aop P (rho env) op H).pre) (aop P (rho env) op H).v (aop P (rho env) op H).h ⟨(aop P (rho env) op H).R,(aop P (rho env) op H).W,H.next,(aop P (rho env) op H).h.next⟩) (h2:needs (op.operands.toList.map (ev env))↔c) (h3:aop P (rho env) op H=r):step1 C P env op H=mkSR (zeU op) c r H:=by rw[h1,h3,propext h2];rfl
theorem ztQ(v:V)(r:ZA):needs (v::r)=(v.cond∧needs r):=rfl
variable {H:Hp}
def zs8(x:Operand):step1 C P env (.move x) H=mkSR true (ev env x).cond (.val H (ev env x).val) H:=zaa rfl (by simp[Op.operands,needs]) rfl
def zmo(x:Operand):step1 C P env (.assign x) H=mkSR true (ev env x).cond (.val H (ev env x).val) H:=zaa rfl (by simp[Op.operands,needs]) rfl
theorem zs7(c a b:Operand):step1 C P env (.pick c a b) H=zc9 (ev env c) (ev env a) (ev env b) H:=rfl
def zoO(t:TypeId):step1 C P env (.alloc t) H=mkSR false True (zeQ P t H) H:=zaa rfl (by simp[Op.operands,needs]) rfl
def boxK(b:Bool)(c:Prop)(v:V)(H:Hp):SR:=match b with|true=>.ok true (c∧zq v=true) (.fp v.cellsV) H ⟨[],[],H.next,H.next⟩|false=>mkSR false c (aBox v H) H
def zwh(t:TypeId)(x:Operand):step1 C P env (.box t x) H=boxK (C.fz t) (ev env x).cond (ev env x).val H:=by
 show (if C.fz t=true then _ else _)=_;unfold boxK;cases C.fz t with
 |true=>rw[Yi rfl]
 |false=>rw[Yh Zs];show SR.ok false (needs [ev env x]∧_) _ _ _=mkSR _ _ _ _;unfold mkSR needs needs;simp only[Yap];rfl
theorem zAI(c:Prop)(v:V):boxK true c v H=.ok true (c∧zq v=true) (.fp v.cellsV) H ⟨[],[],H.next,H.next⟩:=rfl
theorem zvu(c:Prop)(v:V):boxK false c v H=mkSR false c (aBox v H) H:=rfl
def zta(t:TypeId)(x:Operand):step1 C P env (.load t x) H=mkSR true (ev env x).cond (zcr P t (ev env x).val H) H:=zaa rfl (by simp[Op.operands,needs]) rfl
def zoI(t:TypeId)(a x:Operand):step1 C P env (.store t a x) H=mkSR false ((ev env a).cond∧(ev env x).cond) (zd2 P t (ev env a).val (ev env x).val H) H:=zaa rfl (by simp[Op.operands,needs]) rfl
def ziK(x:Operand):step1 C P env (.nilCheck x) H=mkSR true (ev env x).cond (aNil (ev env x).val H) H:=zaa rfl (by simp[Op.operands,needs]) rfl
def zwi(op:BinOp)(t:TypeId)(x y:Operand)(u:TypeId):step1 C P env (.binOp op t x y u) H=mkSR true ((ev env x).cond∧(ev env y).cond) (aBin P op t (ev env x).val (ev env y).val H) H:=zaa rfl (by simp[Op.operands,needs]) rfl
def step1_un(op:UnOp)(t:TypeId)(x:Operand):step1 C P env (.unOp op t x) H=mkSR true (ev env x).cond (aUn op (ev env x).val H) H:=zaa rfl (by simp[Op.operands,needs]) rfl
def zkq(s d:TypeId)(x:Operand):step1 C P env (.convert s d x) H=mkSR false (ev env x).cond (zcy P s d (ev env x).val H) H:=zaa rfl (by simp[Op.operands,needs]) rfl
def ziM(f:FuncId)(caps:List Operand):step1 C P env (.makeFunc (.func f) #[] ⟨caps⟩) H=mkSR true (needs (caps.map (ev env))) (.val H (.fn f (caps.map (rho env)))) H:=zaa rfl (by simp[Op.operands]) rfl
def zhq(t:TypeId)(l c:Operand):step1 C P env (.makeSlice t l c) H=mkSR false ((ev env l).cond∧(ev env c).cond) (zaF P t (ev env l).val (ev env c).val H) H:=zaa rfl (by simp[Op.operands,needs]) rfl
def zkm(t:TypeId)(x l:Operand):step1 C P env (.slice t x (some l) none none) H=mkSR true ((ev env x).cond∧(ev env l).cond) (zbp P t (ev env x).val (some (ev env l).val) none none H) H:=zaa rfl (by simp[Op.operands,needs]) rfl
def zkn(t:TypeId)(x h:Operand):step1 C P env (.slice t x none (some h) none) H=mkSR true ((ev env x).cond∧(ev env h).cond) (zbp P t (ev env x).val none (some (ev env h).val) none H) H:=zaa rfl (by simp[Op.operands,needs]) rfl
def zkl(t:TypeId)(x l h:Operand):step1 C P env (.slice t x (some l) (some h) none) H=mkSR true ((ev env x).cond∧(ev env l).cond∧(ev env h).cond) (zbp P t (ev env x).val (some (ev env l).val) (some (ev env h).val) none H) H:=zaa rfl (by simp[Op.operands,needs]) rfl
def zht(t:TypeId)(x:Operand)(f:Nat):step1 C P env (.fieldAddr t x f) H=mkSR true (ev env x).cond (zay P t (ev env x).val f H) H:=zaa rfl (by simp[Op.operands,needs]) rfl
def zhs(t:TypeId)(x i:Operand):step1 C P env (.indexAddr t x i) H=mkSR true ((ev env x).cond∧(ev env i).cond) (zY P t (ev env x).val (ev env i).val H) H:=zaa rfl (by simp[Op.operands,needs]) rfl
def zoM(t:TypeId)(x i:Operand):step1 C P env (.index t x i) H=mkSR true ((ev env x).cond∧(ev env i).cond) (zbZ P t (ev env x).val (ev env i).val H) H:=zaa rfl (by simp[Op.operands,needs]) rfl
def zkp(x:Operand)(i:Nat):step1 C P env (.extract x i) H=mkSR true (ev env x).cond (zbi (ev env x).val i H) H:=zaa rfl (by simp[Op.operands,needs]) rfl
def zwg(t:TypeId)(x:Operand):step1 C P env (.call { callee:=.builtin .len,args:=⟨[x]⟩,argTypes:=⟨[t]⟩ }) H=mkSR true (ev env x).cond (aLen P t (ev env x).val H) H:=zaa rfl (by simp[Op.operands,Call.operands,needs]) rfl
def zmp(t u:TypeId)(x y:Operand):step1 C P env (.call { callee:=.builtin .append,args:=⟨[x,y]⟩,argTypes:=⟨[t,u]⟩ }) H=mkSR false ((ev env x).cond∧(ev env y).cond) (zcR P t u (ev env x).val (ev env y).val H) H:=zaa rfl (by simp[Op.operands,Call.operands,needs]) rfl
def zwf(x y:Operand)(ts:Array TypeId):step1 C P env (.call { callee:=.builtin .max,args:=⟨[x,y]⟩,argTypes:=ts }) H=mkSR true ((ev env x).cond∧(ev env y).cond) (aMax (ev env x).val (ev env y).val true H) H:=zaa rfl (by simp[Op.operands,Call.operands,needs]) rfl
def zs9(x y z:Operand)(ts:Array TypeId):step1 C P env (.call { callee:=.builtin .max,args:=⟨[x,y,z]⟩,argTypes:=ts }) H=mkSR true ((ev env x).cond∧(ev env y).cond∧(ev env z).cond) (zoo (ev env x).val (ev env y).val (ev env z).val H) H:=zaa rfl (by simp[Op.operands,Call.operands,needs]) rfl
def zwe(x y:Operand)(ts:Array TypeId):step1 C P env (.call { callee:=.builtin .min,args:=⟨[x,y]⟩,argTypes:=ts }) H=mkSR true ((ev env x).cond∧(ev env y).cond) (aMax (ev env x).val (ev env y).val false H) H:=zaa rfl (by simp[Op.operands,Call.operands,needs]) rfl
def zbV(env:Env):List (Nat×Operand)→List (Nat×V)
 |[]=>[]
 |(i,x)::r=>(i,(ev env x).val)::zbV env r
theorem ztH:zbV env []=[]:=rfl
theorem zo9(i:Nat)(x:Operand)(r:List (Nat×Operand)):zbV env ((i,x)::r)=(i,(ev env x).val)::zbV env r:=rfl
def zdj:∀ps:List (Nat×Operand),ps.map (fun p=>(p.1,rho env p.2))=zbV env ps
 |[]=>rfl
 |(i,x)::r=>by rw[YN,zdj r];rfl
def zhW(env:Env):List (Nat×Operand)→Prop
 |[]=>True
 |(_,x)::r=>(ev env x).cond∧zhW env r
theorem ztR:zhW env []=True:=rfl
theorem zpm(i:Nat)(x:Operand)(r:List (Nat×Operand)):zhW env ((i,x)::r)=((ev env x).cond∧zhW env r):=rfl
def zhV:∀ps:List (Nat×Operand),needs ((ps.map (·.2)).map (ev env))↔zhW env ps
 |[]=>Iff.rfl
 |_::r=>and_congr Iff.rfl (zhV r)
def zoN(t:TypeId)(ps:List (Nat×Operand)):step1 C P env (.build t ⟨ps⟩) H=mkSR true (zhW env ps) (zc4 P t (zbV env ps) H) H:=
 zaa rfl (by rw[←zhV];simp[Op.operands]) (by rw[←zdj];rfl)
def zgG(t:TypeId)(n:Nat)(ps:List (Nat×Operand)):step1 C P env (.buildSlice t n ⟨ps⟩) H=mkSR false (zhW env ps) (zM P t n (zbV env ps) H) H:=
 zaa rfl (by rw[←zhV];simp[Op.operands]) (by rw[←zdj];rfl)
theorem zoK(x:Operand):step1 C P env (.panic x) H=match (ev env x).val with| .ifc t v=>.pan (ev env x).cond (.ifc t v) []|_=>.bad:=rfl
def vals(env:Env):List Operand→ZA
 |[]=>[]
 |x::r=>(ev env x).val::vals env r
theorem vals_nil:vals env []=[]:=rfl
theorem zvZ(x:Operand)(r:List Operand):vals env (x::r)=(ev env x).val::vals env r:=rfl
def vals_eq:∀xs:List Operand,xs.map (rho env)=vals env xs
 |[]=>rfl
 |x::r=>by rw[YN,vals_eq r];rfl
def conds(env:Env):List Operand→Prop
 |[]=>True
 |x::r=>(ev env x).cond∧conds env r
theorem zzp:conds env []=True:=rfl
theorem zu0(x:Operand)(r:List Operand):conds env (x::r)=((ev env x).cond∧conds env r):=rfl
def zlC:∀xs:List Operand,needs (xs.map (ev env))=conds env xs
 |[]=>rfl
 |x::r=>by rw[YN,ztQ,zlC r];rfl
def zhr(f:FuncId)(caps:List Operand):step1 C P env (.makeFunc (.func f) ⟨[]⟩ ⟨caps⟩) H=mkSR true (conds env caps) (.val H (.fn f (vals env caps))) H:=by rw[←vals_eq,←zlC];exact ziM f caps
def callF(C:Cfg)(v:V)(as:ZA)(nd:Prop)(H:Hp):SR:=
 match v with
 | .fn f caps=>zcw C f (as++caps) nd H
 | .bnd f fs=>zcw C f (fs++as) nd H
 |_=>.bad
theorem callF_fn(f:FuncId)(caps as:ZA)(nd:Prop):callF C (.fn f caps) as nd H=zcw C f (as++caps) nd H:=rfl
def ztb(f:Operand)(args:List Operand)(ts:Array TypeId):step1 C P env (.call { callee:=.value f,args:=⟨args⟩,argTypes:=ts }) H=callF C (ev env f).val (vals env args) ((ev env f).cond∧conds env args) H:=by rw[←vals_eq,←zlC];rfl
def znK(o:Option PR)(C:Cfg)(f:FuncId)(as:ZA)(nd:Prop)(H:Hp):SR:=
 match o with
 |some (.ret v)=>.ok true nd v H ⟨[],[],0,0⟩
 |some (.panic v)=>.pan nd v []
 |none=>
  match C.Δ f as H with
  |some r=>mkSR false nd r H
  |none=>.bad
def nzs:ZA→ZA
 |[]=>[]
 |v::r=>nz v::nzs r
theorem nzs_nil:nzs []=[]:=rfl
theorem nzs_cons(v:V)(r:ZA):nzs (v::r)=nz v::nzs r:=rfl
def nzs_eq:∀as:ZA,as.map nz=nzs as
 |[]=>rfl
 |v::r=>by rw[YN,nzs_eq r];rfl
theorem nz_bool(b:Bool):nz (.bool b)=.bool b:=rfl
theorem nz_int(k:IntKind)(n:Int):nz (.int k n)=.int k n:=rfl
theorem nz_str(l:ZL):nz (.str l)=.str l:=rfl
theorem nz_nilS:nz .nilS=.fs [] 0:=rfl
theorem nz_sl(b o l s:Nat)(k:Option Nat):nz (.sl b o l s k)=.sl b o l s k:=rfl
theorem nz_fs(cs:ZA)(n:Nat):nz (.fs cs n)=.fs cs n:=rfl
theorem nz_nilP:nz .nilP=.nilP:=rfl
theorem nz_ptr(b o:Nat):nz (.ptr b o)=.ptr b o:=rfl
theorem nz_fp(cs:ZA):nz (.fp cs)=.fp cs:=rfl
theorem nz_nilM:nz .nilM=.nilM:=rfl
theorem nz_map(b:Nat):nz (.map b)=.map b:=rfl
theorem nz_fn(f:FuncId)(cs:ZA):nz (.fn f cs)=.fn f cs:=rfl
theorem nz_nilF:nz .nilF=.nilF:=rfl
theorem nz_ifc(t:TypeId)(v:V):nz (.ifc t v)=.ifc t v:=rfl
theorem nz_nilI:nz .nilI=.nilI:=rfl
theorem nz_agg(cs:ZA):nz (.agg cs)=.agg cs:=rfl
theorem nz_tup(cs:ZA):nz (.tup cs)=.tup cs:=rfl
theorem nz_any:nz .any=.any:=rfl
def zp5(b:Bool)(C:Cfg)(f:FuncId)(as:ZA)(nd:Prop)(H:Hp):SR:=
 match b with
 |true=>znK (C.Γ f (nzs as)) C f as nd H
 |false=>
  match C.Δ f as H with
  |some r=>mkSR false nd r H
  |none=>
   match C.Γ f (as.map (lend H))with
   |some (.ret v)=>.ok true (nd∧zaz v=true) v H ⟨zcq as,[],0,0⟩
   |some (.panic v)=>.pan (nd∧zaz v=true) v (zcq as)
   |none=>.bad
def call1_eq(f:FuncId)(as:ZA)(nd:Prop):zcw C f as nd H=zp5 (zcq as).isEmpty C f as nd H:=by
 unfold zcw zp5;cases (zcq as).isEmpty with
 |true=>rw[Yi rfl,←nzs_eq];unfold znK mkSR;rfl
 |false=>rw[Yh Zs];rfl
theorem zvd(f:FuncId)(as:ZA)(nd:Prop):zp5 true C f as nd H=znK (C.Γ f (nzs as)) C f as nd H:=rfl
@[congr]theorem callE_congr {b b':Bool}{f:FuncId}{as:ZA}{nd:Prop}(h:b=b'):zp5 b C f as nd H=zp5 b' C f as nd H:=by rw[h]
theorem lend_sl(b off len sz:Nat)(kc:Option Nat):lend H (.sl b off len sz kc)=zpt (H.get b) b off len sz kc:=rfl
theorem zt3(cs:ZA)(b off len sz:Nat)(kc:Option Nat):zpt (some (.cells cs)) b off len sz kc=if off+len*sz≤cs.length then .fs ((cs.drop off).take (len*sz)) len else .sl b off len sz kc:=rfl
theorem zyc(b:Bool):lend H (.bool b)=.bool b:=rfl
theorem lend_int(k:IntKind)(n:Int):lend H (.int k n)=.int k n:=rfl
theorem lend_str(l:ZL):lend H (.str l)=.str l:=rfl
theorem zya:lend H .nilS=.fs [] 0:=rfl
theorem lend_fs(cs:ZA)(n:Nat):lend H (.fs cs n)=.fs cs n:=rfl
theorem zyb:lend H .nilP=.nilP:=rfl
theorem lendS_ty(t:TypeId)(cs:ZA)(b off len sz:Nat)(kc:Option Nat):zpt (some (.ty t cs)) b off len sz kc=if off+len*sz≤cs.length then .fs ((cs.drop off).take (len*sz)) len else .sl b off len sz kc:=rfl
theorem lend_ptr(b o:Nat):lend H (.ptr b o)=zt6 (H.get b) b o:=rfl
theorem zt5(cs:ZA)(b off:Nat):zt6 (some (.cells cs)) b off=.fp (cs.drop off):=rfl
theorem lend_fp(cs:ZA):lend H (.fp cs)=.fp cs:=rfl
theorem lend_map(b:Nat):lend H (.map b)=.map b:=rfl
def zrA(H:Hp):ZA→ZA
 |[]=>[]
 |v::r=>ze6 H v::zrA H r
theorem zt1:zrA H []=[]:=rfl
theorem zps(v:V)(r:ZA):zrA H (v::r)=ze6 H v::zrA H r:=rfl
theorem lend0_sl(b off len sz:Nat)(kc:Option Nat):ze6 H (.sl b off len sz kc)=zpt (H.get b) b off len sz kc:=rfl
theorem zyf(b o:Nat):ze6 H (.ptr b o)=zt6 (H.get b) b o:=rfl
theorem zt8(b:Bool):ze6 H (.bool b)=.bool b:=rfl
theorem zyg(k:IntKind)(n:Int):ze6 H (.int k n)=.int k n:=rfl
theorem zye(l:ZL):ze6 H (.str l)=.str l:=rfl
theorem lend0_fs(cs:ZA)(n:Nat):ze6 H (.fs cs n)=.fs cs n:=rfl
theorem lend0_fp(cs:ZA):ze6 H (.fp cs)=.fp cs:=rfl
theorem ztz(b:Bool):zea (.bool b)=[]:=rfl
theorem zwV(k:IntKind)(n:Int):zea (.int k n)=[]:=rfl
theorem zwT(l:ZL):zea (.str l)=[]:=rfl
theorem refs1_fs(cs:ZA)(n:Nat):zea (.fs cs n)=[]:=rfl
theorem refs1_fp(cs:ZA):zea (.fp cs)=[]:=rfl
theorem ztx:zea .nilS=[]:=rfl
theorem zty:zea .nilP=[]:=rfl
theorem refs1_sl(b off len sz:Nat)(kc:Option Nat):zea (.sl b off len sz kc)=[b]:=rfl
theorem zwU(b o:Nat):zea (.ptr b o)=[b]:=rfl
def zo1:ZA→ZN
 |[]=>[]
 |v::r=>zdh v++zo1 r
theorem zwS:zo1 []=[]:=rfl
theorem ztw(v:V)(r:ZA):zo1 (v::r)=zdh v++zo1 r:=rfl
def zkJ:∀vs:ZA,vs.flatMap zdh=zo1 vs
 |[]=>rfl
 |v::r=>by rw[List.flatMap_cons,zkJ r];rfl
def refs1_fn(f:FuncId)(cs:ZA):zea (.fn f cs)=zo1 cs:=by rw[←zkJ];rfl
def zwW(cs:ZA):zea (.agg cs)=zo1 cs:=by rw[←zkJ];rfl
theorem refs0_sl(b off len sz:Nat)(kc:Option Nat):zdh (.sl b off len sz kc)=[b]:=rfl
theorem zwY(b o:Nat):zdh (.ptr b o)=[b]:=rfl
theorem zw0(k:IntKind)(n:Int):zdh (.int k n)=[]:=rfl
theorem zwX(l:ZL):zdh (.str l)=[]:=rfl
theorem ztC(b:Bool):zdh (.bool b)=[]:=rfl
theorem refs0_fs(cs:ZA)(n:Nat):zdh (.fs cs n)=[]:=rfl
theorem refs0_fp(cs:ZA):zdh (.fp cs)=[]:=rfl
theorem zyd:zcq []=[]:=rfl
theorem zt4(v:V)(r:ZA):zcq (v::r)=zea v++zcq r:=rfl
theorem zoT(b:Bool):zaz (.bool b)=true:=rfl
theorem scalar_int(k:IntKind)(n:Int):zaz (.int k n)=true:=rfl
theorem ztj(l:ZL):zaz (.str l)=true:=rfl
theorem zti(vs:ZA):zaz (.tup vs)=vs.all zff:=rfl
theorem ztl(vs:ZA):zaz (.agg vs)=vs.all zff:=rfl
theorem ztk(t:TypeId)(v:V):zaz (.ifc t v)=zff v:=rfl
theorem zA6:([]:ZA).all zff=true:=rfl
theorem zvy(v:V)(r:ZA):(v::r).all zff=(zff v&&r.all zff):=rfl
theorem zA7(b:Bool):zff (.bool b)=true:=rfl
theorem atom_int(k:IntKind)(n:Int):zff (.int k n)=true:=rfl
theorem atom_str(l:ZL):zff (.str l)=true:=rfl
theorem lend_ifc(t:TypeId)(v:V):lend H (.ifc t v)=.ifc t v:=rfl
theorem zt7:ze6 H .nilS=.fs [] 0:=rfl
theorem ztB:zdh .nilS=[]:=rfl
theorem zzE(v:V)(f:FuncId)(as:ZA)(nd:Prop):znK (some (.ret v)) C f as nd H=.ok true nd v H ⟨[],[],0,0⟩:=rfl
theorem zzF(v:V)(f:FuncId)(as:ZA)(nd:Prop):znK (some (.panic v)) C f as nd H=.pan nd v []:=rfl
@[congr]theorem callG_congr {o o':Option PR}{f:FuncId}{as:ZA}{nd:Prop}(h:o=o'):znK o C f as nd H=znK o' C f as nd H:=by rw[h]
def callM(o:Option AR)(nd:Prop)(H:Hp):SR:=match o with|some r=>mkSR false nd r H|none=>.bad
theorem zvc(f:FuncId)(as:ZA)(nd:Prop):znK none C f as nd H=callM (C.Δ f as H) nd H:=rfl
theorem zva(r:AR)(nd:Prop):callM (some r) nd H=mkSR false nd r H:=rfl
def zp6(o:Option AR)(C:Cfg)(f:FuncId)(as:ZA)(nd:Prop)(H:Hp):SR:=
 match o with
 |some r=>mkSR false nd r H
 |none=>
  match C.Γ f (as.map (lend H))with
  |some (.ret v)=>.ok true (nd∧zaz v=true) v H ⟨zcq as,[],0,0⟩
  |some (.panic v)=>.pan (nd∧zaz v=true) v (zcq as)
  |none=>.bad
def zp4(f:FuncId)(as:ZA)(nd:Prop):zp5 false C f as nd H=zp6 (C.Δ f as H) C f as nd H:=by unfold zp5 zp6;rfl
@[congr]theorem callD_congr {o o':Option AR}{f:FuncId}{as:ZA}{nd:Prop}(h:o=o'):zp6 o C f as nd H=zp6 o' C f as nd H:=by rw[h]
theorem zve(r:AR)(f:FuncId)(as:ZA)(nd:Prop):zp6 (some r) C f as nd H=mkSR false nd r H:=rfl
def zvb(o:Option PR)(as:ZA)(nd:Prop)(H:Hp):SR:=
 match o with
 |some (.ret v)=>.ok true (nd∧zaz v=true) v H ⟨zcq as,[],0,0⟩
 |some (.panic v)=>.pan (nd∧zaz v=true) v (zcq as)
 |none=>.bad
def zt2(H:Hp):ZA→ZA
 |[]=>[]
 |v::r=>lend H v::zt2 H r
theorem zx9:zt2 H []=[]:=rfl
theorem zt0(v:V)(r:ZA):zt2 H (v::r)=lend H v::zt2 H r:=rfl
def zrz:∀as:ZA,as.map (lend H)=zt2 H as
 |[]=>rfl
 |v::r=>by rw[YN,zrz r];rfl
def zvf(f:FuncId)(as:ZA)(nd:Prop):zp6 none C f as nd H=zvb (C.Γ f (zt2 H as)) as nd H:=by rw[←zrz];unfold zp6 zvb;rfl
@[congr]theorem callL_congr {o o':Option PR}{as:ZA}{nd:Prop}(h:o=o'):zvb o as nd H=zvb o' as nd H:=by rw[h]
theorem zzC(v:V)(as:ZA)(nd:Prop):zvb (some (.ret v)) as nd H=.ok true (nd∧zaz v=true) v H ⟨zcq as,[],0,0⟩:=rfl
theorem zzD(v:V)(as:ZA)(nd:Prop):zvb (some (.panic v)) as nd H=.pan (nd∧zaz v=true) v (zcq as):=rfl
def extΓ(f0:FuncId)(c:ZA→Option PR)(Γ:FuncId→ZA→Option PR):FuncId→ZA→Option PR:=fun f as=>bif f==f0 then c as else Γ f as
def noΓ:FuncId→ZA→Option PR:=fun _ _=>none
def za8(f0:FuncId)(c:ZA→Hp→Option AR)(Δ:FuncId→ZA→Hp→Option AR):FuncId→ZA→Hp→Option AR:=fun f as H=>bif f==f0 then c as H else Δ f as H
def noΔ:FuncId→ZA→Hp→Option AR:=fun _ _ _=>none
theorem zrP(f0:FuncId)(c:ZA→Option PR)(Γ:FuncId→ZA→Option PR)(f:FuncId)(as:ZA):extΓ f0 c Γ f as=bif f==f0 then c as else Γ f as:=rfl
theorem noΓ_at(f:FuncId)(as:ZA):noΓ f as=none:=rfl
theorem zrO(f0:FuncId)(c:ZA→Hp→Option AR)(Δ:FuncId→ZA→Hp→Option AR)(f:FuncId)(as:ZA)(H:Hp):za8 f0 c Δ f as H=bif f==f0 then c as H else Δ f as H:=rfl
theorem noΔ_at(f:FuncId)(as:ZA)(H:Hp):noΔ f as H=none:=rfl
def zdw(P:Program)(Γ:FuncId→ZA→Option PR):Prop:=∀f args r,Γ f args=some r→PCall P f args r
def zaP(P:Program)(Δ:FuncId→ZA→Hp→Option AR):Prop:=∀f args H r,Δ f args H=some r→HCall P f args H r
def zh:zdw P noΓ:=fun _ _ _ h=>by cases h
def zf:zaP P noΔ:=fun _ _ _ _ h=>by cases h
def zg {f0:FuncId}{c:ZA→Option PR}{Γ:FuncId→ZA→Option PR}(h:∀args r,c args=some r→PCall P f0 args r)(hΓ:zdw P Γ):zdw P (extΓ f0 c Γ):=fun f args r e=>by
 rw[zrP]at e;cases hb:f==f0 with
 |true=>rw[hb]at e;simp at hb;subst hb;exact h _ _ e
 |false=>rw[hb]at e;exact hΓ _ _ _ e
def zJ {f0:FuncId}{c:ZA→Hp→Option AR}{Δ:FuncId→ZA→Hp→Option AR}(h:∀args H r,c args H=some r→HCall P f0 args H r)(hΔ:zaP P Δ):zaP P (za8 f0 c Δ):=fun f args H r e=>by
 rw[zrO]at e;cases hb:f==f0 with
 |true=>rw[hb]at e;simp at hb;subst hb;exact h _ _ _ e
 |false=>rw[hb]at e;exact hΔ _ _ _ _ e
end Go.Ab
