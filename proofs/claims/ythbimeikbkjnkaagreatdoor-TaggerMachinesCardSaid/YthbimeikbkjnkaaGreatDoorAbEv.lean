/- A machine of our own that runs code with known arguments on abstract values: what the kernel can compute. -/
import Derived.Test.YthbimeikbkjnkaaGreatDoorF2g
set_option linter.all false
set_option maxHeartbeats 16000000
set_option maxRecDepth 100000
namespace Go.Ab
inductive Tr where
 |nil
 |node (v:Option V) (l r:Tr)
noncomputable def Tr.get(t:Tr):Nat→Option V:=
 Tr.rec (motive:=fun _=>Nat→Option V) (fun _=>none)
  (fun v _ _ gl gr n=>Bool.rec (Bool.rec (gr (Nat.sub (Nat.div n 2) 1)) (gl (Nat.div n 2)) (Nat.beq (Nat.mod n 2) 1)) v (Nat.beq n 0)) t
noncomputable def Tr.one(x:V):Nat→Nat→Tr:=
 Nat.rec (motive:=fun _=>Nat→Tr) (fun _=>.nil)
  (fun _ f n=>Bool.rec (Bool.rec (.node none .nil (f (Nat.sub (Nat.div n 2) 1))) (.node none (f (Nat.div n 2)) .nil) (Nat.beq (Nat.mod n 2) 1)) (.node (some x) .nil .nil) (Nat.beq n 0))
noncomputable def Tr.set(t:Tr)(x:V):Nat→Tr:=
 Tr.rec (motive:=fun _=>Nat→Tr) (fun n=>Tr.one x 12 n)
  (fun v l r fl fr n=>Bool.rec (Bool.rec (.node v l (fr (Nat.sub (Nat.div n 2) 1))) (.node v (fl (Nat.div n 2)) r) (Nat.beq (Nat.mod n 2) 1)) (.node (some x) l r) (Nat.beq n 0)) t
structure TS where
 t:Tr
 h:Hp
noncomputable def evT(t:Tr):Operand→V
 | .tmp k=>(t.get k).getD .any
 | .const v=>cv v
 | .global k=>match GL k with|some cs=>.fp cs|none=>.any
 | .func f=>.fn f []
def leI(a b:Int):Bool:=decide (a≤b)
def ltI(a b:Int):Bool:=decide (a<b)
def eqK(a b:IntKind):Bool:=decide (a=b)
def ztI(agg:Bool)(n:Nat)(cs:List V):Bool:=bif agg then !(Nat.beq n 0)&&Nat.ble n cs.length else !cs.isEmpty
def zxR(P:Program)(t:TypeId)(a:V)(H:Hp):Bool:=
 match aggT P t,zJ P t,a with
 |some g,some n,.fp cs=>ztI g n cs
 |some g,some n,.ptr b off=>
  match H.get b with
  |some (.cells cs)=>ztI g n (cs.drop off)
  |some (.ty _ cs)=>ztI g n (cs.drop off)
  |_=>false
 |_,_,_=>false
def zxO(P:Program)(t:TypeId)(a x:V)(H:Hp):Bool:=
 match zJ P t,a with
 |some n,.ptr b off=>
  match H.get b with
  |some (.cells cs)=>zq x&&Nat.beq x.cellsV.length n&&Nat.ble (off+n) cs.length
  |some (.ty _ cs)=>zq x&&Nat.beq x.cellsV.length n&&Nat.ble (off+n) cs.length
  |_=>false
 |_,_=>false
def zxZ(P:Program)(t:TypeId):Bool:=
 match zaO P t with
 |some z=>zq (cv z)
 |none=>false
def pNil(x:V):Bool:=
 match x with
 | .ptr .. | .fp .. | .fn .. | .bnd .. =>true
 |_=>false
def pBin(P:Program)(op:BinOp)(t:TypeId)(x y:V)(H:Hp):Bool:=
 match x,y with
 | .int k _,.int k' b=>
  match op with
  | .shl| .shr=>leI 0 b&&leI b k.bits
  | .quo| .rem=>eqK k k'&& !(decide (b=0))
  |_=>eqK k k'
 | .str a,.str b=>
  match op with
  | .add=>leI ((a.length+b.length:Nat):Int) 9223372036854775807
  | .eql| .neq| .lss| .leq| .gtr| .geq=>true
  |_=>false
 | .bool _,.bool _=>
  match op,P.underlying t with
  | .eql,some .bool=>true
  | .neq,some .bool=>true
  |_,_=>false
 |x,y=>(xEq P op t x y H).isSome
def pUn(op:UnOp)(x:V):Bool:=
 match op,x with
 | .neg,.int _ _=>true
 | .not,.bool _=>true
 |_,_=>false
def pConv(P:Program)(src dst:TypeId)(x:V)(H:Hp):Bool:=
 match P.underlying src,P.underlying dst,x with
 |some _,some (.int _),.int _ _=>true
 |some _,some .string,.str _=>true
 |some (.slice e),some .string,x=>
  match P.underlying e,zbc H x 1 with
  |some (.int .u8),some (cs,_,_)=>(bytesOf cs).isSome
  |_,_=>false
 |_,_,x=>(zfV P src dst x H).isSome
def zxV(P:Program)(t:TypeId)(x:V)(f:Nat):Bool:=
 match P.underlying t,x with
 |some (.struct fs),.agg cs=>
  match fs[f]? with
  |some fd=>
   match aggT P fd.type,zJ P fd.type with
   |some g,some n=>ztI g n (cs.drop fd.offset)
   |_,_=>false
  |none=>false
 |_,_=>false
def zf8(P:Program)(t:TypeId)(x:V)(f:Nat):Bool:=
 match P.underlying t with
 |some (.struct fs)=>
  match fs[f]? with
  |some fd=>
   match zJ P fd.type,x with
   |some (_+1),.ptr _ _=>true
   |some (_+1),.fp _=>true
   |_,_=>false
  |none=>false
 |_=>false
def zf7(P:Program)(t:TypeId)(x i:V):Bool:=
 match P.underlying t,i with
 |some (.slice e),.int _ n=>
  match zJ P e,x with
  |some sz,.sl _ _ len sz' _=>Nat.beq sz' sz&&leI 0 n&&ltI n len
  |some _,.fs _ len=>leI 0 n&&ltI n len
  |_,_=>false
 |some (.array len e),.int _ n=>
  match zJ P e,x with
  |some _,.ptr _ _=>leI 0 n&&ltI n len
  |some _,.fp _=>leI 0 n&&ltI n len
  |_,_=>false
 |_,_=>false
def zxT(P:Program)(t:TypeId)(x i:V)(H:Hp):Bool:=
 match P.underlying t,x,i with
 |some .string,.str s,.int _ n=>leI 0 n&&ltI n s.length
 |_,x,i=>(zdq P t x i H).isSome
def zxQ(P:Program)(t:TypeId)(x:V)(lo hi mx:Option V)(H:Hp):Bool:=
 match P.underlying t,x,mx with
 |some .string,.str s,none=>
  match bnd lo 0,bnd hi s.length with
  |some l,some h=>leI 0 l&&leI l h&&leI h s.length
  |_,_=>false
 |some (.slice e),.nilS,none=>
  match zJ P e,bnd lo 0,bnd hi 0 with
  |some _,some l,some h=>decide (l=0)&&decide (h=0)
  |_,_,_=>false
 |some (.slice e),.fs cs len,none=>
  match zJ P e,bnd lo 0,bnd hi len with
  |some sz,some l,some h=>leI 0 l&&leI l h&&leI h len&&Nat.beq cs.length (len*sz)
  |_,_,_=>false
 |some (.slice e),.sl _ _ len sz' kc,none=>
  match zJ P e,bnd lo 0,bnd hi len with
  |some sz,some l,some h=>Nat.beq sz' sz&&leI 0 l&&leI l h&&leI h (kc.getD len)
  |_,_,_=>false
 |some (.slice e),.sl _ _ len sz' kc,some m=>
  match zJ P e,bnd lo 0,bnd hi len,bnd (some m) 0,hi with
  |some sz,some l,some h,some m,some _=>Nat.beq sz' sz&&leI 0 l&&leI l h&&leI h m&&leI m (kc.getD len)
  |_,_,_,_,_=>false
 |some (.array n e),.ptr b off,none=>
  match zJ P e,bnd lo 0,bnd hi n,H.get b with
  |some sz,some l,some h,some (.cells cs)=>leI 0 l&&leI l h&&leI h n&&Nat.ble (off+n*sz) cs.length
  |_,_,_,_=>false
 |_,_,_=>false
def zkQ(x:V)(i:Nat):Bool:=
 match x with
 | .tup vs=>(vs[i]?).isSome
 |_=>false
def pLen(P:Program)(t:TypeId)(x:V)(H:Hp):Bool:=
 match P.underlying t,x with
 |some .string,.str _=>true
 |some (.slice _),.nilS=>true
 |some (.slice _),.fs _ _=>true
 |some (.slice _),.sl _ _ _ _ _=>true
 |some (.map _ _),.nilM=>true
 |some (.map _ _),.map b=>
  match H.get b with
  |some (.mp _ _)=>true
  |_=>false
 |_,_=>false
def zxX(P:Program)(t:TypeId)(parts:List (Nat×V))(H:Hp):Bool:=
 match zaO P t,P.underlying t with
 |some z,some (.struct fs)=>
  match placesOf P fs.toList with
  |some pl=>(zd1 (pl[·]?) (cv z).cellsV parts).isSome&&zq (cv z)
  |none=>false
 |_,_=>(zdr P t parts H).isSome
def zeY(P:Program)(t:TypeId)(len:Nat)(parts:List (Nat×V)):Bool:=
 match zd2 P t with
 |some e=>
  match zJ P e,zaO P e with
  |some s,some z=>(zd1 (fun i=>some (i*s,s)) (zbw P e len) parts).isSome&&zq (cv z)&&Nat.beq (cv z).cellsV.length s&&Nat.ble (len*s) 16777216
  |_,_=>false
 |none=>false
def zf5(P:Program)(t:TypeId)(l c:V):Bool:=
 match zd2 P t,l,c with
 |some e,.int _ l,.int _ c=>
  match zgM P e,zaO P e with
  |some (isz,ib,_),some z=>zq (cv z)&&Nat.beq (cv z).cellsV.length isz&&leI 0 l&&leI l c&&leI c 9223372036854775807&&leI ((ib:Int)*c) 281474976710656
  |_,_=>false
 |_,_,_=>false
def zpg(P:Program)(sT xT:TypeId)(s x:V)(H:Hp):Bool:=
 match zd2 P sT with
 |some e=>
  match zgM P e with
  |some (isz,ib,zok)=>
   match zad P H xT x isz with
   |some (news,n,_)=>
    bif Nat.beq n 0 then(match s with| .nilS| .sl .. | .fs .. =>true|_=>false)else
    match s with
    | .nilS=> !(Nat.beq isz 0)&&zok&&Nat.ble (n*ib) 140737488355328&&Nat.ble n 4611686018427387904&&news.all V.one
    | .sl b off len sz kc=>
     match H.get b with
     |some (.cells cs)=>
      match kc with
      |none=>Nat.beq sz isz&& !(Nat.beq isz 0)&&zok&&Nat.ble (off+len*sz) cs.length&&Nat.ble ((len+n)*ib) 140737488355328&&Nat.ble (len+n) 4611686018427387904&&news.all V.one
      |some k=>
       bif Nat.ble (len+n) k then Nat.beq sz isz&&Nat.ble (off+(len+n)*sz) cs.length&&news.all V.one
       else Nat.beq sz isz&& !(Nat.beq isz 0)&&zok&&Nat.ble (off+len*sz) cs.length&&Nat.ble ((len+n)*ib) 140737488355328&&Nat.ble (len+n) 4611686018427387904&&news.all V.one
     |some (.ty t cs)=>
      match kc with
      |none=>Nat.beq sz isz&& !(Nat.beq isz 0)&&zok&&Nat.ble (off+len*sz) cs.length&&Nat.ble ((len+n)*ib) 140737488355328&&Nat.ble (len+n) 4611686018427387904&&news.all V.one&&Nat.beq t e&&Nat.beq off 0
      |some _=>false
     |_=>false
    |_=>false
   |none=>(zfU P e xT s x H).isSome
  |none=>false
 |none=>false
def zf6(P:Program)(t:TypeId):Bool:=
 match P.underlying t with
 |some (.interface _)=>false
 |some _=>true
 |none=>false
def zpf(P:Program)(x:V)(asserted:TypeId)(ok:Bool):Bool:=
 match P.underlying asserted,zaO P asserted,x with
 |some _,some _,.ifc t _=> !(znc P asserted)&&(Nat.beq t asserted||ok)
 |some _,some _,.nilI=> !(znc P asserted)&&ok
 |_,_,_=>false
def zkR(P:Program)(b:Builtin)(ts:Array TypeId)(args:List V)(H:Hp):Bool:=
 match b,args with
 | .len,[x]=>match ts[0]? with|some t=>pLen P t x H|none=>false
 | .append,[s,x]=>match ts.toList with|[sT,xT]=>zpg P sT xT s x H|_=>false
 | .max,[x,y]=>match x,y with| .int ..,.int .. =>true|_,_=>false
 | .min,[x,y]=>match x,y with| .int ..,.int .. =>true|_,_=>false
 | .cap,[x]=>match ts[0]? with|some t=>(xCap P t x H).isSome|none=>false
 | .copy,[d,x]=>match ts.toList with|[dT,xT]=>(zj8 P dT xT d x H).isSome|_=>false
 | .clear,[x]=>match ts[0]? with|some t=>(zfg P t x H).isSome|none=>false
 | .unsafeSliceData,[x]=>(zbb x H).isSome
 | .unsafeString,[x,n]=>match ts.toList with|[pt,_]=>(zcm P pt x n H).isSome|_=>false
 |_,_=>false
def step1R(C:Cfg)(P:Program)(ρ:Operand→V)(op:Op)(H:Hp):SR:=
 match op with
 | .pick c a b=>zcH (ρ c) (ρ a) (ρ b) H
 | .call { callee:=.value f,args,.. }=>
  match (ρ f).val with
  | .fn fid caps=>zcx C fid (args.toList.map (fun x=>(ρ x).val)++caps) ((ρ f).cond∧needs (args.toList.map ρ)) H
  | .bnd fid fs=>zcx C fid (fs++args.toList.map (fun x=>(ρ x).val)) ((ρ f).cond∧needs (args.toList.map ρ)) H
  |_=>.bad
 | .panic x=>
  match (ρ x).val with
  | .ifc t v=>.pan (ρ x).cond (.ifc t v) []
  |_=>.bad
 | .box t x=>
  if C.fz t=true then .ok true ((ρ x).cond∧zq (ρ x).val=true) (.fp (ρ x).val.cellsV) H ⟨[],[],H.next,H.next⟩
  else .ok false (needs [ρ x]∧(aop P (fun x=>(ρ x).val) (.box t x) H).pre) (aop P (fun x=>(ρ x).val) (.box t x) H).v (aop P (fun x=>(ρ x).val) (.box t x) H).h
   ⟨(aop P (fun x=>(ρ x).val) (.box t x) H).R,(aop P (fun x=>(ρ x).val) (.box t x) H).W,H.next,(aop P (fun x=>(ρ x).val) (.box t x) H).h.next⟩
 |op=>.ok (zeS op) (needs (op.operands.toList.map ρ)∧(aop P (fun x=>(ρ x).val) op H).pre) (aop P (fun x=>(ρ x).val) op H).v (aop P (fun x=>(ρ x).val) op H).h
  ⟨(aop P (fun x=>(ρ x).val) op H).R,(aop P (fun x=>(ρ x).val) op H).W,H.next,(aop P (fun x=>(ρ x).val) op H).h.next⟩
def unopt:V→Option V
 | .int k n=>some (.int k n)
 | .bool b=>some (.bool b)
 | .str s=>some (.str s)
 | .sl b o l s c=>some (.sl b o l s c)
 | .ptr b o=>some (.ptr b o)
 | .fs c n=>some (.fs c n)
 | .fp c=>some (.fp c)
 | .agg c=>some (.agg c)
 | .tup c=>some (.tup c)
 | .fn f c=>some (.fn f c)
 | .bnd f c=>some (.bnd f c)
 | .map b=>some (.map b)
 | .ifc t v=>some (.ifc t v)
 | .nilS=>some .nilS
 | .nilP=>some .nilP
 | .nilM=>some .nilM
 | .nilF=>some .nilF
 | .nilI=>some .nilI
 | .any=>none
 | .opt b v=>match b with|true=>some v|false=>none
noncomputable def fetch(t:Tr):Operand→Option V
 | .tmp k=>match t.get k with|some v=>unopt v|none=>none
 | .const v=>unopt (cv v)
 | .global k=>match GL k with|some cs=>some (.fp cs)|none=>none
 | .func f=>some (.fn f [])
noncomputable def zgv(t:Tr):List Operand→Option (List V)
 |[]=>some []
 |x::r=>match fetch t x with|some v=>(match zgv t r with|some l=>some (v::l)|none=>none)|none=>none
noncomputable def znu(t:Tr):Option Operand→Option (Option V)
 |none=>some none
 |some x=>match fetch t x with|some v=>some (some v)|none=>none
noncomputable def znt(t:Tr):List (Nat×Operand)→Option (List (Nat×V))
 |[]=>some []
 |x::r=>match fetch t x.2 with|some v=>(match znt t r with|some l=>some ((x.1,v)::l)|none=>none)|none=>none
inductive ER where
 |ok (st:Bool) (v:V) (h:Hp) (f:Foot)
 |pan (v:V)
 |bad
def eFin(st p:Bool)(r:AR)(H:Hp):ER:=bif p then .ok st r.v r.h ⟨r.R,r.W,H.next,r.h.next⟩else .bad
def eXR(q:Option XR)(H:Hp):ER:=
 match q with
 |some r=>.ok false r.v r.h ⟨r.R,r.W,H.next,r.h.next⟩
 |none=>.bad
def eVal(v:V)(H:Hp):ER:=.ok true v H ⟨[],[],H.next,H.next⟩
def eCall(C:Cfg)(fid:FuncId)(ags:List V)(H:Hp):ER:=
 bif (zco ags).isEmpty then
  match C.Γ fid (ags.map nz)with
  |some (.ret v)=>.ok true v H ⟨[],[],0,0⟩
  |some (.panic v)=>.pan v
  |none=>
   match C.Δ fid ags H with
   |some r=>.ok false r.v r.h ⟨r.R,r.W,H.next,r.h.next⟩
   |none=>.bad
 else
  match C.Δ fid ags H with
  |some r=>.ok false r.v r.h ⟨r.R,r.W,H.next,r.h.next⟩
  |none=>
   match C.Γ fid (ags.map (lend H))with
   |some (.ret v)=>bif zaA v then .ok true v H ⟨zco ags,[],0,0⟩else .bad
   |some (.panic v)=>bif zaA v then .pan v else .bad
   |none=>.bad
noncomputable def zi6(C:Cfg)(P:Program)(t:Tr)(op:Op)(H:Hp):ER:=
 match op with
 | .move x| .assign x=>match fetch t x with|some v=>eVal v H|none=>.bad
 | .load ty a=>match fetch t a with|some v=>eFin true (zxR P ty v H) (zcr P ty v H) H|none=>.bad
 | .binOp b ty x y _=>match fetch t x with
  |some v=>(match fetch t y with|some u=>eFin true (pBin P b ty v u H) (aBin P b ty v u H) H|none=>.bad)
  |none=>.bad
 | .pick c x y=>match fetch t c with
  |some (.bool true)=>(match fetch t x with
   |some v=>.ok true v H ⟨[],[],0,0⟩
   |none=>.bad)
  |some (.bool false)=>(match fetch t y with
   |some v=>.ok true v H ⟨[],[],0,0⟩
   |none=>.bad)
  |_=>.bad
 | .indexAddr ty x i=>match fetch t x with
  |some v=>(match fetch t i with|some u=>eFin true (zf7 P ty v u) (zai P ty v u H) H|none=>.bad)
  |none=>.bad
 | .index ty x i=>match fetch t x with
  |some v=>(match fetch t i with|some u=>eFin true (zxT P ty v u H) (zc4 P ty v u H) H|none=>.bad)
  |none=>.bad
 | .store ty a x=>match fetch t a with
  |some v=>(match fetch t x with|some u=>eFin false (zxO P ty v u H) (zdX P ty v u H) H|none=>.bad)
  |none=>.bad
 | .nilCheck x=>match fetch t x with|some v=>eFin true (pNil v) (aNil v H) H|none=>.bad
 | .fieldAddr ty x f=>match fetch t x with|some v=>eFin true (zf8 P ty v f) (zaz P ty v f H) H|none=>.bad
 | .field ty x f=>match fetch t x with|some v=>eFin true (zxV P ty v f) (zfS P ty v f H) H|none=>.bad
 | .extract x i=>match fetch t x with|some v=>eFin true (zkQ v i) (zbj v i H) H|none=>.bad
 | .unOp o _ x=>match fetch t x with|some v=>eFin true (pUn o v) (aUn o v H) H|none=>.bad
 | .convert s d x=>match fetch t x with|some v=>eFin false (pConv P s d v H) (zdn P s d v H) H|none=>.bad
 | .makeInterface ty x=>match fetch t x with|some v=>eFin true (zf6 P ty) (za1 P ty v H) H|none=>.bad
 | .typeAssert x _ ty ok=>match fetch t x with|some v=>eFin true (zpf P v ty ok) (zdS P v ty ok H) H|none=>.bad
 | .alloc ty=>eFin false (zxZ P ty) (zeQ P ty H) H
 | .box ty x=>match fetch t x with
  |some v=>bif zq v then(bif C.fz ty then eVal (.fp v.cellsV) H else .ok false (.ptr H.next 0) (H.new (.cells v.cellsV)) ⟨[],[],H.next,H.next+1⟩)else .bad
  |none=>.bad
 | .build ty ps=>match znt t ps.toList with|some l=>eFin true (zxX P ty l H) (zc5 P ty l H) H|none=>.bad
 | .buildSlice ty n ps=>match znt t ps.toList with|some l=>eFin false (zeY P ty n l) (zV P ty n l H) H|none=>.bad
 | .makeFunc (.func f) first caps=>
  bif Nat.beq first.size 0 then(match zgv t caps.toList with|some l=>eVal (.fn f l) H|none=>.bad)
  else bif Nat.beq caps.size 0 then(match zgv t first.toList with|some l=>eVal (.bnd f l) H|none=>.bad)else .bad
 | .makeSlice ty l c=>match fetch t l with
  |some v=>(match fetch t c with|some u=>eFin false (zf5 P ty v u) (zaH P ty v u H) H|none=>.bad)
  |none=>.bad
 | .slice ty x lo hi mx=>match fetch t x with
  |some v=>(match znu t lo with
   |some l=>(match znu t hi with
    |some h=>(match znu t mx with
     |some m=>eFin true (zxQ P ty v l h m H) (za3 P ty v l h m H) H
     |none=>.bad)
    |none=>.bad)
   |none=>.bad)
  |none=>.bad
 | .call { callee:=.value f,args,.. }=>match fetch t f with
  |some (.fn fid caps)=>(match zgv t args.toList with|some l=>eCall C fid (l++caps) H|none=>.bad)
  |some (.bnd fid fs)=>(match zgv t args.toList with|some l=>eCall C fid (fs++l) H|none=>.bad)
  |_=>.bad
 | .call { callee:=.builtin b,args,argTypes }=>match zgv t args.toList with
  |some l=>eFin (zeS op) (zkR P b argTypes l H) (zch P b argTypes l H) H
  |none=>.bad
 | .panic x=>match fetch t x with
  |some (.ifc ty v)=>.pan (.ifc ty v)
  |_=>.bad
 | .makeMap _ none=>eXR (zff H) H
 | .lookup ty x k ok=>match fetch t x with
  |some v=>(match fetch t k with|some u=>eXR (zaP P ty v u ok H) H|none=>.bad)
  |none=>.bad
 | .mapUpdate ty m k x| .insert ty m k x=>match fetch t m with
  |some mv=>(match fetch t k with
   |some kv=>(match fetch t x with|some xv=>eXR (zaw P ty mv kv xv H) H|none=>.bad)
   |none=>.bad)
  |none=>.bad
 | .mapEntry ty m k=>match fetch t m with
  |some mv=>(match fetch t k with|some kv=>eXR (zbO P ty mv kv H) H|none=>.bad)
  |none=>.bad
 | .entryStore _ m n x=>match fetch t m with
  |some mv=>(match fetch t n with
   |some nv=>(match fetch t x with|some xv=>eXR (za4 mv nv xv H) H|none=>.bad)
   |none=>.bad)
  |none=>.bad
 | .range ty x=>match fetch t x with|some v=>eXR (zcB P ty v H) H|none=>.bad
 | .entry x=>match fetch t x with|some v=>eXR (zdU v H) H|none=>.bad
 |_=>.bad
noncomputable def TS.put(s:TS)(dst:Option Tmp)(v:V)(h:Hp):TS:=
 match dst with
 |some d=>⟨s.t.set v d,h⟩
 |none=>⟨s.t,h⟩
noncomputable def eGval(ops:Array Oper)(t:Tr)(o:Oper):Option Bool:=
 match o.guard with
 |none=>some true
 |some (j,want)=>
  match (ops[j]?).bind (·.dst)with
  |some d=>match t.get d with
   |some (.bool b)=>some (b==want)
   |some (.opt c (.bool b))=>some (c&&(b==want))
   |some (.opt false _)=>some false
   |some (.tup [])=>some false
   |_=>none
  |none=>none
def zeA(C:Cfg)(fid:FuncId)(ags:List V)(H:Hp):V×Foot:=
 bif (zco ags).isEmpty then
  match C.Γ fid (ags.map nz)with
  |some (.ret v)=>(.opt false v,⟨[],[],0,0⟩)
  |_=>(undefV,⟨[],[],0,0⟩)
 else
  match C.Γ fid (ags.map (lend H))with
  |none=>(undefV,⟨[],[],0,0⟩)
  |some _=>
   match zcx C fid ags True H with
   | .ok true _ v _ f=>(.opt false v,⟨f.R,[],0,0⟩)
   |_=>(undefV,⟨[],[],0,0⟩)
noncomputable def zpX(C:Cfg)(P:Program)(ρ:Operand→V)(op:Op)(H:Hp):V×Foot:=
 match op with
 | .call { callee:=.value f,args,.. }=>
  match (ρ f).val with
  | .fn fid caps=>zeA C fid (args.toList.map (fun x=>(ρ x).val)++caps) H
  | .bnd fid fs=>zeA C fid (fs++args.toList.map (fun x=>(ρ x).val)) H
  |_=>(undefV,⟨[],[],0,0⟩)
 |op=>
  match step1R C P ρ op H with
  | .ok true _ v _ f=>(.opt false v,⟨f.R,[],0,0⟩)
  |_=>(undefV,⟨[],[],0,0⟩)
noncomputable def eRun(C:Cfg)(P:Program)(ops:Array Oper)(d:Bool):List Oper→Nat→TS→List (Nat×Foot)→Option (Out×TS)
 |[],_,s,acc=>bif d then(bif chk ops acc then some (.norm,s)else none)else some (.norm,s)
 |o::os,i,s,acc=>
  match eGval ops s.t o with
  |some true=>
   match zi6 C P s.t o.op s.h with
   | .ok st v h f=>
    bif o.guard.isNone|| !st then(bif wok C f.W then eRun C P ops d os (i+1) (s.put o.dst v h) (bif d then accF acc i f else acc)else none)
    else eRun C P ops d os (i+1) (s.put o.dst (.opt true v) s.h) (bif d then accF acc i ⟨f.R,[],0,0⟩else acc)
   | .pan v=>bif d then(bif zee ops i&&chk ops acc then some (.panic v,s)else none)else some (.panic v,s)
   | .bad=>none
  |some false=>eRun C P ops d os (i+1) (s.put o.dst (zpX C P (evT s.t) o.op s.h).1 s.h) (bif d then accF acc i (zpX C P (evT s.t) o.op s.h).2 else acc)
  |none=>none
abbrev OL:=Option (List (Out×TS))
def single:Option (Out×TS)→OL
 |some p=>some [p]
 |none=>none
noncomputable def zi7(f:TS→OL):List (Out×TS)→OL
 |[]=>some []
 |p::r=>
  match p with
  |(.norm,s)=>
   match r with
   |[]=>f s
   |_=>match f s with
    |some l=>(match zi7 f r with|some l'=>some (l++l')|none=>none)
    |none=>none
  |(o,s)=>match zi7 f r with|some l'=>some ((o,s)::l')|none=>none
noncomputable def zu4(f:TS→OL):Nat→TS→OL
 |0,_=>none
 |n+1,s=>match f s with
  |some l=>zi7 (zu4 f n) l
  |none=>none
def endB(id:Nat):List (Out×TS)→List (Out×TS)
 |[]=>[]
 |p::r=>(match p with
  |(.exit i,s)=>bif Nat.beq i id then(.norm,s)else(.exit i,s)
  |p=>p)::endB id r
noncomputable def zu5(C:Cfg)(P:Program)(ops:Array Oper)(o:Oper)(os:List Oper)(s:TS):List XR→OL
 |[]=>some []
 |q::r=>
  bif wok C q.W then
   match eRun C P ops false os 1 (s.put o.dst q.v q.h) []with
   |some p=>(match zu5 C P ops o os s r with|some l=>some (p::l)|none=>none)
   |none=>none
  else none
structure TP where
 s:TS
 v:V
 f:Foot
 e:TS
noncomputable def zgy(C:Cfg)(P:Program):List Oper→TS→Option (List TP×TS)
 |[],s=>some ([],s)
 |o::os,s=>
  match o.guard with
  |some _=>none
  |none=>
   match zi6 C P s.t o.op s.h with
   | .ok _ v h f=>
    bif wok C f.W then
     match zgy C P os (s.put o.dst v h)with
     |some (l,e)=>some (⟨s,v,f,s.put o.dst v h⟩::l,e)
     |none=>none
    else none
   |_=>none
noncomputable def lateB(P:Program)(o:Option Oper)(a c:TP):Bool:=
 match o with
 |some o=>
  match o.op with
  | .lookup ty x k false=>
   match fetch a.s.t x,fetch a.s.t k with
   |some (.map b),some kv=>
    match c.e.h.get b with
    |some y=>
     match zaP P ty (.map b) kv false (a.s.h.put b y)with
     |some r=>beqV r.v a.v&&Nat.beq c.e.h.next a.s.h.next
     |none=>false
    |none=>false
   |_,_=>false
  |_=>false
 |none=>false
noncomputable def zrx(P:Program)(ops:Array Oper)(ms:List Nat)(l:List TP)(i j:Nat):Bool:=
 match l[i]?,l[j]? with
 |some a,some c=> !clash a.f c.f||ordB ms i j||(lateB P ops[i]? a c&&(List.range l.length).all fun k=> !decide (i<k)||Nat.beq k j||(match l[k]? with|some e=> !clash a.f e.f|none=>true)||ordB ms i k)
 |_,_=>true
noncomputable def eLate(C:Cfg)(P:Program)(ops:Array Oper)(s:TS):OL:=
 match zgy C P ops.toList s with
 |some (l,e)=>bif (List.range l.length).all fun i=>(List.range l.length).all fun j=> !decide (i<j)||zrx P ops (masks ops) l i j then some [(.norm,e)]else none
 |none=>none
noncomputable def zij(C:Cfg)(P:Program)(ops:Array Oper)(d:Bool)(s:TS):OL:=
 match d,ops.toList with
 |false,o::os=>
  match o.op,o.guard with
  | .next it false,none=>
   match fetch s.t it with
   |some v=>(match zj7 v s.h with
    |some l=>zu5 C P ops o os s l
    |none=>none)
   |none=>none
  |_,_=>single (eRun C P ops false (o::os) 0 s [])
 |false,l=>single (eRun C P ops false l 0 s [])
 |true,l=>
  match eRun C P ops true l 0 s []with
  |some p=>some [p]
  |none=>eLate C P ops s
noncomputable def zdK(C:Cfg)(P:Program)(N:Nat):Code→TS→OL
 | .skip,s=>some [(.norm,s)]
 | .ret,s=>some [(.ret,s)]
 | .exit id,s=>some [(.exit id,s)]
 | .seq x y,s=>match zdK C P N x s with
  |some l=>zi7 (zdK C P N y) l
  |none=>none
 | .block id x,s=>match zdK C P N x s with
  |some l=>some (endB id l)
  |none=>none
 | .cond c x y,s=>match evT s.t c with
  | .bool b=>bif b then zdK C P N x s else zdK C P N y s
  |_=>none
 | .region _ ops d,s=>zij C P ops d s
 | .loop x,s=>zu4 (zdK C P N x) N s
 |_,_=>none
noncomputable def eRes(P:Program)(s:TS):List ResultVar→Option (List V)
 |[]=>some []
 | .tmp t::r=>match eRes P s r with|some l=>some ((s.t.get t).getD .any::l)|none=>none
 | .cell c t::r=>bif zxR P t ((s.t.get c).getD .any) s.h then(match eRes P s r with|some l=>some ((zcr P t ((s.t.get c).getD .any) s.h).v::l)|none=>none)else none
noncomputable def zvW:Nat→Tr→List V→Tr
 |_,t,[]=>t
 |i,t,a::r=>zvW (i+1) (t.set a i) r
structure ECfg where
 Γ:FuncId→List V→Option PR
 can:FuncId→Bool
 wr:FuncId→Nat
 fz:TypeId→Bool
 N:Nat
 spec:(FuncId→List V→Hp→Option AR)→FuncId→List V→Hp→Option AR
def keysOf(l:List (Nat×Blk)):List Nat:=l.map (·.1)
def zo1:V→List Nat
 | .sl b .. =>[b]
 | .ptr b _=>[b]
 | .map b=>[b]
 | .ifc _ (.ptr b _)=>[b]
 | .ifc _ (.sl b ..)=>[b]
 | .ifc _ (.map b)=>[b]
 | .fn _ cs=>cs.flatMap fun c=>match c with| .sl b .. =>[b]| .ptr b _=>[b]| .map b=>[b]|_=>[]
 | .bnd _ cs=>cs.flatMap fun c=>match c with| .sl b .. =>[b]| .ptr b _=>[b]| .map b=>[b]|_=>[]
 | .agg cs=>cs.flatMap fun c=>match c with| .sl b .. =>[b]| .ptr b _=>[b]| .map b=>[b]|_=>[]
 |_=>[]
def refsB(H:Hp)(b:Nat):List Nat:=
 match H.get b with
 |some (.cells cs)=>b::cs.flatMap zo1
 |some (.ty _ cs)=>b::cs.flatMap zo1
 |some (.mp es _)=>b::es.flatMap fun e=>zo1 e.2.2
 |some (.it (some m) _ _ _ _ _)=>[b,m]
 |some (.it none _ _ _ _ _)=>[b]
 |none=>[]
def reach(H:Hp):Nat→List Nat→List Nat
 |0,l=>l.filter fun b=>(H.get b).isSome
 |n+1,l=>reach H n (l.flatMap (refsB H))
def wrOf(n:Nat)(args:List V)(H:Hp):List Nat:=
 match n with
 |0=>[]
 |n+1=>reach H n (args.flatMap zo1)
def close(H:Hp):Nat→List Nat→List Nat→List Nat
 |0,_,done=>done
 |n+1,todo,done=>
  match todo with
  |[]=>done
  |b::r=>bif done.contains b then close H n r done else close H n ((refsB H b).tail++r) (b::done)
def restr(L:List Nat)(H:Hp):Hp:=⟨H.bs.filter fun p=>L.contains p.1,H.next⟩
def zxk(L:List Nat)(H:Hp):List (Nat×Blk):=H.bs.filter fun p=> !L.contains p.1
def joinR(L:List Nat)(H:Hp)(r:AR):AR:={ r with h:=⟨r.h.bs++zxk L H,r.h.next⟩ }
def zcK(n:Nat)(K:List Nat)(h:Hp):Hp:=⟨h.bs.filter fun p=>Nat.blt p.1 n||K.contains p.1,h.next⟩
def zeV(W:List Nat)(l:List V)(h:Hp):List Nat:=l.flatMap zo1++W.flatMap fun b=>(refsB h b).tail
noncomputable def eOut(P:Program)(fn:Func)(W:List Nat)(H:Hp):Out×TS→Option AR
 |(o,s)=>
  match o with
  | .norm| .ret=>
   match eRes P s fn.results.toList with
   |some l=>some ⟨True,tupV l,zcK H.next (close s.h 100000 (zeV W l s.h) []) s.h,keysOf H.bs,W⟩
   |none=>none
  |_=>none
def zrg(a b:Hp):Hp:=⟨b.bs,bif Nat.ble a.next b.next then b.next else a.next⟩
noncomputable def eOuts(f:Out×TS→Option AR):List (Out×TS)→Option AR
 |[]=>none
 |p::r=>
  match r with
  |[]=>f p
  |_=>match f p with
   |some a=>(match eOuts f r with
    |some b=>bif beqV a.v b.v&&zqx a.h.bs b.h.bs then some { b with h:=zrg a.h b.h }else none
    |none=>none)
   |none=>none
noncomputable def eBody(E:ECfg)(P:Program)(rec:FuncId→List V→Hp→Option AR)(f:FuncId)(args:List V)(H:Hp):Option AR:=
 match P.funcs[f]? with
 |some fn=>
  match fn.body with
  |some c=>
   bif zar fn.ntmps c&&Nat.ble args.length fn.ntmps&&Nat.ble fn.ntmps 4000 then
    match zdK ⟨fn.ntmps,fun _=>true,E.Γ,rec,H.next,wrOf (E.wr f) args H,E.fz⟩ P E.N c ⟨zvW 0 .nil args,H⟩with
    |some l=>eOuts (eOut P fn (wrOf (E.wr f) args H) H) l
    |none=>none
   else none
  |none=>none
 |none=>none
noncomputable def eFn(E:ECfg)(P:Program):Nat→FuncId→List V→Hp→Option AR
 |0,_,_,_=>none
 |n+1,f,args,H=>
  match E.spec (eFn E P n) f args H with
  |some r=>some r
  |none=>
   bif E.can f then
    match eBody E P (eFn E P n) f args (restr (close H 100000 (args.flatMap zo1) []) H)with
    |some r=>some (joinR (close H 100000 (args.flatMap zo1) []) H r)
    |none=>none
   else none
end Go.Ab
