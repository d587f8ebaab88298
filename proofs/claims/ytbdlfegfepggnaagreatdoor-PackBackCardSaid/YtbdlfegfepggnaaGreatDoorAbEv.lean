/- A machine of our own that runs code with known arguments on abstract values: what the kernel can compute. -/
import Derived.Test.YtbdlfegfepggnaaGreatDoorQRat2
import Derived.LoopN
set_option linter.all false
set_option maxHeartbeats 16000000
set_option maxRecDepth 100000
noncomputable section
namespace Go.Ab
inductive Tr where
 |nil
 |node (v:Option V) (l r:Tr)
def Tr.get(t:Tr):Nat→Option V:=
 Tr.rec (motive:=fun _=>Nat→Option V) (fun _=>none)
  (fun v _ _ gl gr n=>Bool.rec (Bool.rec (gr (Nat.sub (Nat.div n 2) 1)) (gl (Nat.div n 2)) (Nat.beq (Nat.mod n 2) 1)) v (Nat.beq n 0)) t
def Tr.one(x:V):Nat→Nat→Tr:=
 Nat.rec (motive:=fun _=>Nat→Tr) (fun _=>.nil)
  (fun _ f n=>Bool.rec (Bool.rec (.node none .nil (f (Nat.sub (Nat.div n 2) 1))) (.node none (f (Nat.div n 2)) .nil) (Nat.beq (Nat.mod n 2) 1)) (.node (some x) .nil .nil) (Nat.beq n 0))
def Tr.set(t:Tr)(x:V):Nat→Tr:=
 Tr.rec (motive:=fun _=>Nat→Tr) (fun n=>Tr.one x 12 n)
  (fun v l r fl fr n=>Bool.rec (Bool.rec (.node v l (fr (Nat.sub (Nat.div n 2) 1))) (.node v (fl (Nat.div n 2)) r) (Nat.beq (Nat.mod n 2) 1)) (.node (some x) l r) (Nat.beq n 0)) t
structure TS where
 t:Tr
 h:Hp
def evT(t:Tr):Operand→V
 | .tmp k=>(t.get k).getD .any
 | .const v=>cv v
 | .global k=>match GL k with|some cs=>.fp cs|none=>.any
 | .func f=>.fn f []
def leI(a b:Int):Bool:=decide (a≤b)
def ltI(a b:Int):Bool:=decide (a<b)
def eqK(a b:IntKind):Bool:=decide (a=b)
def zu1(agg:Bool)(n:Nat)(cs:ZA):Bool:=bif agg then !(Nat.beq n 0)&&Nat.ble n cs.length else !cs.isEmpty
def pLoad(P:Program)(t:TypeId)(a:V)(H:Hp):Bool:=
 match aggT P t,zF P t,a with
 |some g,some n,.fp cs=>zu1 g n cs
 |some g,some n,.ptr b off=>
  match H.get b with
  |some (.cells cs)=>zu1 g n (cs.drop off)
  |some (.ty _ cs)=>zu1 g n (cs.drop off)
  |some (.ro cs)=>zu1 g n (cs.drop off)
  |_=>false
 |_,_,_=>false
def pStore(P:Program)(t:TypeId)(a x:V)(H:Hp):Bool:=
 match zF P t,a with
 |some n,.ptr b off=>
  match H.get b with
  |some (.cells cs)=>zt x&&Nat.beq x.cellsV.length n&&Nat.ble (off+n) cs.length
  |some (.ty _ cs)=>zt x&&Nat.beq x.cellsV.length n&&Nat.ble (off+n) cs.length
  |_=>false
 |_,_=>false
def pAlloc(P:Program)(t:TypeId):Bool:=
 match zaw P t with
 |some z=>zt (cv z)
 |none=>false
def pNil(x:V):Bool:=
 match x with
 | .ptr .. | .fp .. | .fn .. | .bnd .. =>true
 |_=>false
def pBin(P:Program)(op:BinOp)(t:TypeId)(x y:V)(H:Hp):Bool:=
 match x,y with
 | .int k _,.int k' b=>
  match op with
  | .shl| .shr=>leI 0 b&&leI b k.bits
  | .quo| .rem=>eqK k k'&& !(decide (b=0))
  |_=>eqK k k'
 | .str a,.str b=>
  match op with
  | .add=>leI ((a.length+b.length:Nat):Int) 9223372036854775807
  | .eql| .neq| .lss| .leq| .gtr| .geq=>true
  |_=>false
 | .bool _,.bool _=>
  match op,P.underlying t with
  | .eql,some .bool=>true
  | .neq,some .bool=>true
  |_,_=>false
 |x,y=>(xEq P op t x y H).isSome
def pUn(op:UnOp)(x:V):Bool:=
 match op,x with
 | .neg,.int _ _=>true
 | .not,.bool _=>true
 |_,_=>false
def pConv(P:Program)(src dst:TypeId)(x:V)(H:Hp):Bool:=
 match P.underlying src,P.underlying dst,x with
 |some _,some (.int _),.int _ _=>true
 |some _,some .string,.str _=>true
 |some (.slice e),some .string,x=>
  match P.underlying e,zaE H x 1 with
  |some (.int .u8),some (cs,_,_)=>(bytesOf cs).isSome
  |_,_=>false
 |_,_,x=>(zeF P src dst x H).isSome
def pField(P:Program)(t:TypeId)(x:V)(f:Nat):Bool:=
 match P.underlying t,x with
 |some (.struct fs),.agg cs=>
  match fs[f]? with
  |some fd=>
   match aggT P fd.type,zF P fd.type with
   |some g,some n=>zu1 g n (cs.drop fd.offset)
   |_,_=>false
  |none=>false
 |_,_=>false
def zrD(P:Program)(t:TypeId)(x:V)(f:Nat):Bool:=
 match P.underlying t with
 |some (.struct fs)=>
  match fs[f]? with
  |some fd=>
   match zF P fd.type,x with
   |some (_+1),.ptr _ _=>true
   |some (_+1),.fp _=>true
   |_,_=>false
  |none=>false
 |_=>false
def zrC(P:Program)(t:TypeId)(x i:V):Bool:=
 match P.underlying t,i with
 |some (.slice e),.int _ n=>
  match zF P e,x with
  |some sz,.sl _ _ len sz' _=>Nat.beq sz' sz&&leI 0 n&&ltI n len
  |some _,.fs _ len=>leI 0 n&&ltI n len
  |_,_=>false
 |some (.array len e),.int _ n=>
  match zF P e,x with
  |some _,.ptr _ _=>leI 0 n&&ltI n len
  |some _,.fp _=>leI 0 n&&ltI n len
  |_,_=>false
 |_,_=>false
def pIndex(P:Program)(t:TypeId)(x i:V)(H:Hp):Bool:=
 match P.underlying t,x,i with
 |some .string,.str s,.int _ n=>leI 0 n&&ltI n s.length
 |_,x,i=>(zc1 P t x i H).isSome
def pSlice(P:Program)(t:TypeId)(x:V)(lo hi mx:Option V)(H:Hp):Bool:=
 match P.underlying t,x,mx with
 |some .string,.str s,none=>
  match bnd lo 0,bnd hi s.length with
  |some l,some h=>leI 0 l&&leI l h&&leI h s.length
  |_,_=>false
 |some (.slice e),.nilS,none=>
  match zF P e,bnd lo 0,bnd hi 0 with
  |some _,some l,some h=>decide (l=0)&&decide (h=0)
  |_,_,_=>false
 |some (.slice e),.fs cs len,none=>
  match zF P e,bnd lo 0,bnd hi len with
  |some sz,some l,some h=>leI 0 l&&leI l h&&leI h len&&Nat.beq cs.length (len*sz)
  |_,_,_=>false
 |some (.slice e),.sl _ _ len sz' kc,none=>
  match zF P e,bnd lo 0,bnd hi len with
  |some sz,some l,some h=>Nat.beq sz' sz&&leI 0 l&&leI l h&&leI h (kc.getD len)
  |_,_,_=>false
 |some (.slice e),.sl _ _ len sz' kc,some m=>
  match zF P e,bnd lo 0,bnd hi len,bnd (some m) 0,hi with
  |some sz,some l,some h,some m,some _=>Nat.beq sz' sz&&leI 0 l&&leI l h&&leI h m&&leI m (kc.getD len)
  |_,_,_,_,_=>false
 |some (.array n e),.ptr b off,none=>
  match zF P e,bnd lo 0,bnd hi n,H.get b with
  |some sz,some l,some h,some (.cells cs)=>leI 0 l&&leI l h&&leI h n&&Nat.ble (off+n*sz) cs.length
  |_,_,_,_=>false
 |_,_,_=>false
def pExtract(x:V)(i:Nat):Bool:=
 match x with
 | .tup vs=>(vs[i]?).isSome
 |_=>false
def pLen(P:Program)(t:TypeId)(x:V)(H:Hp):Bool:=
 match P.underlying t,x with
 |some .string,.str _=>true
 |some (.slice _),.nilS=>true
 |some (.slice _),.fs _ _=>true
 |some (.slice _),.sl _ _ _ _ _=>true
 |some (.map _ _),.nilM=>true
 |some (.map _ _),.map b=>
  match H.get b with
  |some (.mp _ _)=>true
  |_=>false
 |_,_=>false
def pBuild(P:Program)(t:TypeId)(parts:List (Nat×V))(H:Hp):Bool:=
 match zaw P t,P.underlying t with
 |some z,some (.struct fs)=>
  match placesOf P fs.toList with
  |some pl=>(zdd (pl[·]?) (cv z).cellsV parts).isSome&&zt (cv z)
  |none=>false
 |_,_=>(zc2 P t parts H).isSome
def znB(P:Program)(t:TypeId)(len:Nat)(parts:List (Nat×V)):Bool:=
 match zdv P t with
 |some e=>
  match zF P e,zaw P e with
  |some s,some z=>(zdd (fun i=>some (i*s,s)) (zbe P e len) parts).isSome&&zt (cv z)&&Nat.beq (cv z).cellsV.length s&&Nat.ble (len*s) 16777216
  |_,_=>false
 |none=>false
def zrA(P:Program)(t:TypeId)(l c:V):Bool:=
 match zdv P t,l,c with
 |some e,.int _ l,.int _ c=>
  match zho P e,zaw P e with
  |some (isz,ib,_),some z=>zt (cv z)&&Nat.beq (cv z).cellsV.length isz&&leI 0 l&&leI l c&&leI c 9223372036854775807&&leI ((ib:Int)*c) 281474976710656
  |_,_=>false
 |_,_,_=>false
def pAppend(P:Program)(sT xT:TypeId)(s x:V)(H:Hp):Bool:=
 match zdv P sT with
 |some e=>
  match zho P e with
  |some (isz,ib,zok)=>
   match zau P H xT x isz with
   |some (news,n,_)=>
    bif Nat.beq n 0 then(match s with| .nilS| .sl .. | .fs .. =>true|_=>false)else
    match s with
    | .nilS=> !(Nat.beq isz 0)&&zok&&Nat.ble (n*ib) 140737488355328&&Nat.ble n 4611686018427387904&&news.all V.one
    | .sl b off len sz kc=>
     match H.get b with
     |some (.cells cs)=>
      match kc with
      |none=>Nat.beq sz isz&& !(Nat.beq isz 0)&&zok&&Nat.ble (off+len*sz) cs.length&&Nat.ble ((len+n)*ib) 140737488355328&&Nat.ble (len+n) 4611686018427387904&&news.all V.one
      |some k=>
       bif Nat.ble (len+n) k then Nat.beq sz isz&&Nat.ble (off+(len+n)*sz) cs.length&&news.all V.one
       else Nat.beq sz isz&& !(Nat.beq isz 0)&&zok&&Nat.ble (off+len*sz) cs.length&&Nat.ble ((len+n)*ib) 140737488355328&&Nat.ble (len+n) 4611686018427387904&&news.all V.one
     |some (.ty t cs)=>
      match kc with
      |none=>Nat.beq sz isz&&Nat.beq isz 1&&zok&&Nat.ble (off+len*sz) cs.length&&Nat.ble ((len+n)*ib) 140737488355328&&Nat.ble (len+n) 4611686018427387904&&news.all V.one&&Nat.beq t e&&Nat.beq off 0
      |some _=>false
     |some (.ro cs)=>
      match kc with
      |none=>false
      |some k=>
       bif Nat.ble (len+n) k then false
       else Nat.beq sz isz&& !(Nat.beq isz 0)&&zok&&Nat.ble (off+len*sz) cs.length&&Nat.ble ((len+n)*ib) 140737488355328&&Nat.ble (len+n) 4611686018427387904&&news.all V.one
     |_=>false
    |_=>false
   |none=>(zhN P e xT s x H).isSome
  |none=>false
 |none=>false
def zrB(P:Program)(t:TypeId):Bool:=
 match P.underlying t with
 |some (.interface _)=>false
 |some _=>true
 |none=>false
def pAssert(P:Program)(x:V)(asserted:TypeId)(ok:Bool):Bool:=
 match P.underlying asserted,zaw P asserted,x with
 |some _,some _,.ifc t _=> !(zl2 P asserted)&&(Nat.beq t asserted||ok)
 |some _,some _,.nilI=> !(zl2 P asserted)&&ok
 |_,_,_=>false
def pBuiltin(P:Program)(b:Builtin)(ts:Array TypeId)(args:ZA)(H:Hp):Bool:=
 match b,args with
 | .len,[x]=>match ts[0]? with|some t=>pLen P t x H|none=>false
 | .append,[s,x]=>match ts.toList with|[sT,xT]=>pAppend P sT xT s x H|_=>false
 | .max,[x,y]=>match x,y with| .int ..,.int .. =>true|_,_=>false
 | .min,[x,y]=>match x,y with| .int ..,.int .. =>true|_,_=>false
 | .cap,[x]=>match ts[0]? with|some t=>(xCap P t x H).isSome|none=>false
 | .copy,[d,x]=>match ts.toList with|[dT,xT]=>(zi6 P dT xT d x H).isSome|_=>false
 | .clear,[x]=>match ts[0]? with|some t=>(zeG P t x H).isSome|none=>false
 | .unsafeSliceData,[x]=>(zaR x H).isSome
 | .unsafeString,[x,n]=>match ts.toList with|[pt,_]=>(zb2 P pt x n H).isSome|_=>false
 |_,_=>false
def unopt:V→Option V
 | .int k n=>some (.int k n)
 | .bool b=>some (.bool b)
 | .str s=>some (.str s)
 | .sl b o l s c=>some (.sl b o l s c)
 | .ptr b o=>some (.ptr b o)
 | .fs c n=>some (.fs c n)
 | .fp c=>some (.fp c)
 | .agg c=>some (.agg c)
 | .tup c=>some (.tup c)
 | .fn f c=>some (.fn f c)
 | .bnd f c=>some (.bnd f c)
 | .map b=>some (.map b)
 | .ifc t v=>some (.ifc t v)
 | .nilS=>some .nilS
 | .nilP=>some .nilP
 | .nilM=>some .nilM
 | .nilF=>some .nilF
 | .nilI=>some .nilI
 | .any=>none
 | .opt b v=>match b with|true=>some v|false=>none
def fetch(t:Tr):Operand→Option V
 | .tmp k=>match t.get k with|some v=>unopt v|none=>none
 | .const v=>unopt (cv v)
 | .global k=>match GL k with|some cs=>some (.fp cs)|none=>none
 | .func f=>some (.fn f [])
def ziP(t:Tr):List Operand→Option ZA
 |[]=>some []
 |x::r=>match fetch t x with|some v=>(match ziP t r with|some l=>some (v::l)|none=>none)|none=>none
def zwu(t:Tr):Option Operand→Option (Option V)
 |none=>some none
 |some x=>match fetch t x with|some v=>some (some v)|none=>none
def zwt(t:Tr):List (Nat×Operand)→Option (List (Nat×V))
 |[]=>some []
 |x::r=>match fetch t x.2 with|some v=>(match zwt t r with|some l=>some ((x.1,v)::l)|none=>none)|none=>none
inductive ER where
 |ok (st:Bool) (v:V) (h:Hp) (f:Foot)
 |pan (v:V)
 |bad
def eFin(st p:Bool)(r:AR)(H:Hp):ER:=bif p then .ok st r.v r.h ⟨r.R,r.W,H.next,r.h.next⟩else .bad
def eXR(q:Option XR)(H:Hp):ER:=
 match q with
 |some r=>.ok false r.v r.h ⟨r.R,r.W,H.next,r.h.next⟩
 |none=>.bad
def eVal(v:V)(H:Hp):ER:=.ok true v H ⟨[],[],H.next,H.next⟩
def eCall(C:Cfg)(fid:FuncId)(ags:ZA)(H:Hp):ER:=
 bif (zck ags).isEmpty then
  match C.Γ fid (ags.map nz)with
  |some (.ret v)=>.ok true v H ⟨[],[],0,0⟩
  |some (.panic v)=>.pan v
  |none=>
   match C.Δ fid ags H with
   |some r=>.ok false r.v r.h ⟨r.R,r.W,H.next,r.h.next⟩
   |none=>.bad
 else
  match C.Δ fid ags H with
  |some r=>.ok false r.v r.h ⟨r.R,r.W,H.next,r.h.next⟩
  |none=>
   match C.Γ fid (ags.map (lend H))with
   |some (.ret v)=>bif zaF v then .ok true v H ⟨zck ags,[],0,0⟩else .bad
   |some (.panic v)=>bif zaF v then .pan v else .bad
   |none=>.bad
def eStep(C:Cfg)(P:Program)(t:Tr)(op:Op)(H:Hp):ER:=
 match op with
 | .move x| .assign x=>match fetch t x with|some v=>eVal v H|none=>.bad
 | .load ty a=>match fetch t a with|some v=>eFin true (pLoad P ty v H) (zcW P ty v H) H|none=>.bad
 | .binOp b ty x y _=>match fetch t x with
  |some v=>(match fetch t y with|some u=>eFin true (pBin P b ty v u H) (aBin P b ty v u H) H|none=>.bad)
  |none=>.bad
 | .pick c x y=>match fetch t c with
  |some (.bool true)=>(match fetch t x with
   |some v=>.ok true v H ⟨[],[],0,0⟩
   |none=>.bad)
  |some (.bool false)=>(match fetch t y with
   |some v=>.ok true v H ⟨[],[],0,0⟩
   |none=>.bad)
  |_=>.bad
 | .indexAddr ty x i=>match fetch t x with
  |some v=>(match fetch t i with|some u=>eFin true (zrC P ty v u) (zaa P ty v u H) H|none=>.bad)
  |none=>.bad
 | .index ty x i=>match fetch t x with
  |some v=>(match fetch t i with|some u=>eFin true (pIndex P ty v u H) (zb0 P ty v u H) H|none=>.bad)
  |none=>.bad
 | .store ty a x=>match fetch t a with
  |some v=>(match fetch t x with|some u=>eFin false (pStore P ty v u H) (zef P ty v u H) H|none=>.bad)
  |none=>.bad
 | .nilCheck x=>match fetch t x with|some v=>eFin true (pNil v) (aNil v H) H|none=>.bad
 | .fieldAddr ty x f=>match fetch t x with|some v=>eFin true (zrD P ty v f) (zaB P ty v f H) H|none=>.bad
 | .field ty x f=>match fetch t x with|some v=>eFin true (pField P ty v f) (zhJ P ty v f H) H|none=>.bad
 | .extract x i=>match fetch t x with|some v=>eFin true (pExtract v i) (zbn v i H) H|none=>.bad
 | .unOp o _ x=>match fetch t x with|some v=>eFin true (pUn o v) (aUn o v H) H|none=>.bad
 | .convert s d x=>match fetch t x with|some v=>eFin false (pConv P s d v H) (zcX P s d v H) H|none=>.bad
 | .makeInterface ty x=>match fetch t x with|some v=>eFin true (zrB P ty) (zbM P ty v H) H|none=>.bad
 | .typeAssert x _ ty ok=>match fetch t x with|some v=>eFin true (pAssert P v ty ok) (zeB P v ty ok H) H|none=>.bad
 | .alloc ty=>eFin false (pAlloc P ty) (zfS P ty H) H
 | .box ty x=>match fetch t x with
  |some v=>bif zt v then(bif C.fz ty then eVal (.fp v.cellsV) H else .ok false (.ptr H.next 0) (H.new (.cells v.cellsV)) ⟨[],[],H.next,H.next+1⟩)else .bad
  |none=>.bad
 | .build ty ps=>match zwt t ps.toList with|some l=>eFin true (pBuild P ty l H) (zdp P ty l H) H|none=>.bad
 | .buildSlice ty n ps=>match zwt t ps.toList with|some l=>eFin false (znB P ty n l) (zS P ty n l H) H|none=>.bad
 | .makeFunc (.func f) first caps=>
  bif Nat.beq first.size 0 then(match ziP t caps.toList with|some l=>eVal (.fn f l) H|none=>.bad)
  else bif Nat.beq caps.size 0 then(match ziP t first.toList with|some l=>eVal (.bnd f l) H|none=>.bad)else .bad
 | .makeSlice ty l c=>match fetch t l with
  |some v=>(match fetch t c with|some u=>eFin false (zrA P ty v u) (zaJ P ty v u H) H|none=>.bad)
  |none=>.bad
 | .slice ty x lo hi mx=>match fetch t x with
  |some v=>(match zwu t lo with
   |some l=>(match zwu t hi with
    |some h=>(match zwu t mx with
     |some m=>eFin true (pSlice P ty v l h m H) (zbm P ty v l h m H) H
     |none=>.bad)
    |none=>.bad)
   |none=>.bad)
  |none=>.bad
 | .call { callee:=.value f,args,.. }=>match fetch t f with
  |some (.fn fid caps)=>(match ziP t args.toList with|some l=>eCall C fid (l++caps) H|none=>.bad)
  |some (.bnd fid fs)=>(match ziP t args.toList with|some l=>eCall C fid (fs++l) H|none=>.bad)
  |_=>.bad
 | .call { callee:=.builtin b,args,argTypes }=>match ziP t args.toList with
  |some l=>eFin (zfo op) (pBuiltin P b argTypes l H) (zcr P b argTypes l H) H
  |none=>.bad
 | .panic x=>match fetch t x with
  |some (.ifc ty v)=>.pan (.ifc ty v)
  |_=>.bad
 | .makeMap _ none=>eXR (zdW H) H
 | .lookup ty x k ok=>match fetch t x with
  |some v=>(match fetch t k with|some u=>eXR (zbu P ty v u ok H) H|none=>.bad)
  |none=>.bad
 | .mapUpdate ty m k x| .insert ty m k x=>match fetch t m with
  |some mv=>(match fetch t k with
   |some kv=>(match fetch t x with|some xv=>eXR (zaq P ty mv kv xv H) H|none=>.bad)
   |none=>.bad)
  |none=>.bad
 | .mapEntry ty m k=>match fetch t m with
  |some mv=>(match fetch t k with|some kv=>eXR (zbt P ty mv kv H) H|none=>.bad)
  |none=>.bad
 | .entryStore _ m n x=>match fetch t m with
  |some mv=>(match fetch t n with
   |some nv=>(match fetch t x with|some xv=>eXR (zaK mv nv xv H) H|none=>.bad)
   |none=>.bad)
  |none=>.bad
 | .range ty x=>match fetch t x with|some v=>eXR (zdm P ty v H) H|none=>.bad
 | .entry x=>match fetch t x with|some v=>eXR (zeE v H) H|none=>.bad
 |_=>.bad
def TS.put(s:TS)(dst:Option Tmp)(v:V)(h:Hp):TS:=
 match dst with
 |some d=>⟨s.t.set v d,h⟩
 |none=>⟨s.t,h⟩
structure TP where
 s:TS
 v:V
 f:Foot
 e:TS
structure ECfg where
 Γ:FuncId→ZA→Option PR
 can:FuncId→Bool
 wr:FuncId→Nat
 fz:TypeId→Bool
 N:Nat
 spec:(FuncId→ZA→Hp→Option AR)→FuncId→ZA→Hp→Option AR
end Go.Ab

namespace Go.Ab
variable {P:Program}
def ztd {a b:Nat}(h:a≠b):Nat.beq a b=false:=by
 cases e:Nat.beq a b with
 |true=>exact absurd (Ybm e) h
 |false=>rfl
end Go.Ab

namespace Go.Ab
variable {P:Program}
def zdc(v:Option V)(l r:Tr)(m:Nat):(Tr.node v l r).get m=if m=0 then v else if m%2=1 then l.get (m/2)else r.get (m/2-1):=by
 show (Bool.rec (Bool.rec (r.get (m/2-1)) (l.get (m/2)) (Nat.beq (m%2) 1)) v (Nat.beq m 0):Option V)=_;by_cases h:m=0
 ·subst h;rfl
 rw[Ye h,ztd h];show (Bool.rec (r.get (m/2-1)) (l.get (m/2)) (Nat.beq (m%2) 1):Option V)=_;by_cases h1:m%2=1
 ·rw[Yi h1,h1];rfl
 rw[Ye h1,ztd h1]
def one_succ(x:V)(k n:Nat):Tr.one x (k+1) n=if n=0 then .node (some x) .nil .nil else if n%2=1 then .node none (Tr.one x k (n/2)) .nil else .node none .nil (Tr.one x k (n/2-1)):=by
 show (Bool.rec (Bool.rec (.node none .nil (Tr.one x k (n/2-1))) (.node none (Tr.one x k (n/2)) .nil) (Nat.beq (n%2) 1)) (.node (some x) .nil .nil) (Nat.beq n 0):Tr)=_;by_cases h:n=0
 ·subst h;rfl
 rw[Ye h,ztd h];show (Bool.rec (.node none .nil (Tr.one x k (n/2-1))) (.node none (Tr.one x k (n/2)) .nil) (Nat.beq (n%2) 1):Tr)=_;by_cases h1:n%2=1
 ·rw[Yi h1,h1];rfl
 rw[Ye h1,ztd h1]
def set_node(x:V)(v:Option V)(l r:Tr)(n:Nat):(Tr.node v l r).set x n=if n=0 then .node (some x) l r else if n%2=1 then .node v (l.set x (n/2)) r else .node v l (r.set x (n/2-1)):=by
 show (Bool.rec (Bool.rec (.node v l (r.set x (n/2-1))) (.node v (l.set x (n/2)) r) (Nat.beq (n%2) 1)) (.node (some x) l r) (Nat.beq n 0):Tr)=_;by_cases h:n=0
 ·subst h;rfl
 rw[Ye h,ztd h];show (Bool.rec (.node v l (r.set x (n/2-1))) (.node v (l.set x (n/2)) r) (Nat.beq (n%2) 1):Tr)=_;by_cases h1:n%2=1
 ·rw[Yi h1,h1];rfl
 rw[Ye h1,ztd h1]
theorem get_nil(m:Nat):Tr.nil.get m=none:=rfl
theorem set_nil(x:V)(n:Nat):Tr.nil.set x n=Tr.one x 12 n:=rfl
def zn9(x:V):∀(k n m:Nat),n+1<2^k→(Tr.one x k n).get m=if m=n then some x else none
 |0,n,m,h=>by simp at h
 |k+1,n,m,h=>by
  rw[one_succ];have hp:2^(k+1)=2*2^k:=by rw[YG];omega
  split
  ·subst n;rw[zdc];by_cases hm:m=0
   ·rw[Yi hm,Yi hm]
   rw[Ye hm,Ye hm];split<;>rfl
  split
  ·rw[zdc,zn9 x k (n/2) (m/2) Zo];by_cases hm:m=0
   ·rw[Yi hm,Ye Zo]
   rw[Ye hm];split
   ·by_cases e:m/2=n/2
    ·rw[Yi e,Yi Zo]
    rw[Ye e,Ye Zo]
   rw[Ye Zo];rfl
  rw[zdc,zn9 x k (n/2-1) (m/2-1) Zo];by_cases hm:m=0
  ·rw[Yi hm,Ye Zo]
  rw[Ye hm];split
  ·rw[Ye Zo];rfl
  by_cases e:m/2-1=n/2-1
  ·rw[Yi e,Yi Zo]
  rw[Ye e,Ye Zo]
def zn8(x:V):∀(t:Tr)(n m:Nat),n<4095→(t.set x n).get m=if m=n then some x else t.get m
 | .nil,n,m,h=>by rw[set_nil,zn9 x 12 n m Zo,get_nil]
 | .node v l r,n,m,h=>by
  rw[set_node,zdc];split
  ·subst n;rw[zdc];by_cases hm:m=0
   ·rw[Yi hm,Yi hm]
   rw[Ye hm,Ye hm,Ye hm]
  split
  ·rw[zdc,zn8 x l (n/2) (m/2) Zo];by_cases hm:m=0
   ·rw[Yi hm,Ye Zo,Yi hm]
   rw[Ye hm,Ye hm];split
   ·by_cases e:m/2=n/2
    ·rw[Yi e,Yi Zo]
    rw[Ye e,Ye Zo]
   rw[Ye Zo]
  rw[zdc,zn8 x r (n/2-1) (m/2-1) Zo];by_cases hm:m=0
  ·rw[Yi hm,Ye Zo,Yi hm]
  rw[Ye hm,Ye hm];split
  ·rw[Ye Zo]
  by_cases e:m/2-1=n/2-1
  ·rw[Yi e,Yi Zo]
  rw[Ye e,Ye Zo]
def TE(t:Tr)(env:Env):Prop:=∀k,t.get k=env.lookup k
def TE.put {t:Tr}{env:Env}(h:TE t env)(v:V){d:Nat}(hd:d<4095):TE (t.set v d) ((d,v)::env):=fun k=>by
 rw[zn8 v t d k hd,YE];by_cases e:k=d
 ·subst e;simp
 rw[Ye e,h k];have:(k==d)=false:=by simp[e]
 rw[this]
def TE.ev {t:Tr}{env:Env}(h:TE t env):evT t=ev env:=by
 funext x;cases x<;>first|rfl|exact Ya1 (fun o=>o.getD V.any) (h _)
def zb4:∀(l:List (Nat×V))(t k:Nat),(l.filter fun p=>p.1 != t).lookup k=if k=t then none else l.lookup k
 |[],t,k=>Zs
 |p::l,t,k=>by
  rw[YaN,YE];by_cases hp:p.1=t
  ·rw[Ye (by simp[hp]),zb4 l t k];by_cases hk:k=t
   ·rw[Yi hk,Yi hk]
   have:(k==p.1)=false:=by simp[hp,hk]
   rw[Ye hk,Ye hk,this]
  rw[Yi (by simp[hp]),YE,zb4 l t k];by_cases hk:k=p.1
  ·have:(k==p.1)=true:=by simp[hk]
   have ht:¬k=t:=Zo;rw[this];simp[ht]
  have:(k==p.1)=false:=by simp[hk]
  rw[this]
def TE.trim {t:Tr}:∀ {env:Env},TE t env→TE t (zb7 (fun _=>true) env):=by
 have key:∀(env:Env)(k:Nat),(zb7 (fun _=>true) env).lookup k=env.lookup k:=by
  intro env;induction env with
  |nil=>intro k;rfl
  |cons p r ih=>
   intro k;obtain⟨d,v⟩:=p;show (((d,v)::(zb7 _ r).filter fun p=>p.1 != d):Env).lookup k=_;rw[YE,YE,zb4,ih];by_cases hk:k=d
   ·have:(k==d)=true:=by simp[hk]
    rw[this]
   have:(k==d)=false:=by simp[hk]
   rw[this,Ye hk]
 intro env h k;rw[key,h k]
end Go.Ab

namespace Go.Ab
variable {P:Program}
def KT(K:Out→St→Prop)(o:Out)(s:TS):Prop:=∀env,TE s.t env→K o ⟨env,s.h⟩
def KTL(K:Out→St→Prop)(l:List (Out×TS)):Prop:=∀p∈l,KT K p.1 p.2
def KTL.one {K:Out→St→Prop}{o:Out}{s:TS}(h:KTL K [(o,s)]):KT K o s:=h (o,s) (YK ..)
structure TPok(C:Cfg)(P:Program)(p:TP)(o:Oper)(S S':St):Prop where
 guard:o.guard=none
 step:∃st,eStep C P p.s.t o.op p.s.h=.ok st p.v p.e.h p.f
 wok:wok C p.f.W=true
 te:TE p.s.t S.env
 heap:S.h=p.s.h
 next:S'=(S.put o.dst p.v).hp p.e.h
end Go.Ab

namespace Go.Ab
def Stat.trans {H H1 H2:Hp}{W1 W2:ZN}(p:Stat H H1 W1)(q:Stat H1 H2 W2):Stat H H2 (W1++W2.filter (· <H.next)):=by
 refine⟨Yw p.next q.next,fun b hb hn=>?_,fun b hb=>?_,fun h=>q.keys (p.keys h)⟩
 ·rw[q.frame b (Yu hb p.next) fun h=>hn (YJ _ (YaH.2 ⟨h,by simpa using hb⟩)),p.frame b hb fun h=>hn (YC _ h)]
 rcases Yam.1 hb with h|h
 ·exact p.live b h
 obtain⟨h1,h2⟩:=YaH.1 h;have hlt:b<H.next:=by simpa using h2
 by_cases hw:b∈W1
 ·exact p.live b hw
 obtain⟨x,hx⟩:=q.live b h1;rw[p.frame b hlt hw]at hx;exact⟨x,hx⟩
def Inv.more {g:G}{base:Nat}{H:Hp}{D:Nat→Prop}{w w2:World}(h:Inv g base H D w)(hb:Bel w.heap.size w w2):Inv g base H D w2:=
 ⟨fun c a e=>by rw[hb.block c (h.below_phi e)];exact h.frz c a e,fun b T e=>⟨(h.dom b T e).1,(h.dom b T e).2.1,Yu (h.dom b T e).2.2 hb.size⟩,h.keys,
  fun b x hd e=>let ⟨T,o,e1,e2,e3,e4⟩:=h.cont b x hd e;⟨T,o,e1,e2,by rw[hb.block _ (h.dom b T e1).2.2];exact e3,e4⟩,h.inj,Yw h.base hb.size⟩
section
variable {P:Program}
def HCall.frame {f:FuncId}{args:ZA}{H H1:Hp}{q:Nat→Bool}{r1:AR}{join:Hp}(hn:H1.next=H.next)(h1:∀b,H1.get b=if q b=true then H.get b else Option.none)
 (hj:∀b,join.get b=match r1.h.get b with|some x=>some x|Option.none=>if q b=true then Option.none else H.get b) (hjn:join.next=r1.h.next) (h:HCall P f args H1 r1):HCall P f args H { r1 with h:=join }:=by
 obtain⟨hs,hc⟩:=h
 have sub:∀ {b x},H1.get b=some x→q b=true∧H.get b=some x:=by
  intro b x e;rw[h1]at e;split at e
  ·rename_i hq;exact⟨hq,e⟩
  cases e
 have liveQ:r1.pre→∀b∈r1.W,q b=true∧∃x,H.get b=some x:=fun hp b hb=>by obtain⟨x,hx⟩:=(hs hp).live b hb;exact⟨(sub hx).1,x,(sub hx).2⟩
 have outside:r1.pre→∀b,b<H.next→¬q b=true→r1.h.get b=Option.none:=fun hp b hb hq=>by rw[(hs hp).frame b (hn▸hb) fun hw=>hq (liveQ hp b hw).1,h1,Ye hq]
 have fr:r1.pre→∀b,b<H.next→b∉r1.W→join.get b=H.get b:=fun hp b hb hw=>by
  rw[hj];by_cases hq:q b=true
  ·rw[(hs hp).frame b (hn▸hb) hw,h1,Yi hq,Yi hq];cases H.get b<;>rfl
  rw[outside hp b hb hq,Ye hq]
 refine⟨fun hp=>⟨by rw[hjn,←hn];exact(hs hp).next,fr hp,fun b hb=>(liveQ hp b hb).2,fun hk b x e=>?_⟩,fun hp g base D w vs hgl hI hvs hpw hD=>?_⟩
 ·show b<join.next;rw[hjn];have e':join.get b=some x:=e;rw[hj]at e';have hk1:∀b x,H1.get b=some x→b<H1.next:=fun b x e=>by rw[hn];exact hk b x (sub e).2
  split at e'
  ·rename_i y hy;exact(hs hp).keys hk1 b y hy
  split at e'
  ·cases e'
  have:=hk b x e';have:=(hs hp).next
  omega
 have hI1:Inv g base H1 D w:=⟨hI.frz,fun b T e=>by rw[hn];exact hI.dom b T e,fun b x e=>by rw[hn];exact hI.keys b x (sub e).2,fun b x hd e=>hI.cont b x hd (sub e).2,
  fun b b' x x' T T' hd hd' e e'=>hI.inj b b' x x' T T' hd hd' (sub e).2 (sub e').2,hI.base⟩
 refine(hc hp g base D w vs hgl hI1 hvs hpw hD).mono fun e w' q'=>?_
 obtain⟨g',vc,rfl,hv,p⟩:=q'
 refine⟨g',vc,rfl,hv,?_⟩
 have hDW:∀b∈r1.W,D b:=fun b hb=>hD b (YJ _ hb)
 have old:∀b x,D b→¬q b=true→H.get b=some x→∃T o,g.mu b=some T∧g'.mu b=some T∧T.c<w.heap.size∧g'.phi T.c=Option.none∧w'.heap[T.c]? =some o∧BlkRel g x T o:=by
  intro b x hd hq e;obtain⟨T,o,e1,e2,e3,e4⟩:=hI.cont b x hd e;have hlt:=(hI.dom b T e1).2.2;refine⟨T,o,e1,p.le.1 _ _ e1,hlt,?_,?_,e4⟩
  ·cases hq2:g'.phi T.c with
   |none=>rfl
   |some a=>
    rcases p.newphi _ _ hq2 with h|h
    ·rw[e2]at h;cases h
    omega
  rw[p.frame T.c hlt fun b0 hb0 T0 e0 ec=>?_]
  ·exact e3
  obtain⟨hq0,x0,hx0⟩:=liveQ hp b0 hb0;have:=hI.inj b0 b x0 x T0 T (hDW b0 hb0) hd hx0 e e0 e1 ec;subst this;exact hq hq0
 have parts:∀b x,join.get b=some x→r1.h.get b=some x∨(r1.h.get b=Option.none∧¬q b=true∧H.get b=some x):=by
  intro b x e;rw[hj]at e;split at e
  ·rename_i y hy;cases e;exact .inl hy
  rename_i hy;split at e
  ·cases e
  rename_i hq;exact .inr ⟨hy,hq,e⟩
 refine⟨p.le,⟨p.inv.frz,fun b T e=>by rw[hjn];exact p.inv.dom b T e,fun b x e=>?_,fun b x hd e=>?_,fun b b' x x' T T' hd hd' e e' m m' ec=>?_,p.inv.base⟩,
  fun b T e=>by rw[←hn];exact p.newmu b T e,p.newphi,p.frame,p.size,p.os,p.tape,p.output,fr hp,by rw[hjn,←hn];exact p.anext⟩
 ·rw[hjn];rcases parts b x e with e|⟨_,_,e⟩
  ·exact p.inv.keys b x e
  have:=hI.keys b x e;have:=p.anext;omega
 ·rcases parts b x e with e|⟨_,hq,e⟩
  ·exact p.inv.cont b x (hn▸hd) e
  have hlt:=hI.keys b x e;obtain⟨T,o,e1,e2,e3,e4,e5,e6⟩:=old b x (hd.resolve_right Zo) hq e;exact⟨T,o,e2,e4,e5,e6.mono p.le⟩
 ·have mixed:∀ {b b' x x' T T'},(D b∨H.next≤b)→(D b'∨H.next≤b')→r1.h.get b=some x→¬q b'=true→H.get b'=some x'→g'.mu b=some T→g'.mu b'=some T'→T.c=T'.c→False:=by
   intro b b' x x' T T' hd hd' e hq e' m m' ec;have hlt':=hI.keys b' x' e';obtain⟨U,o,u1,u2,u3,_⟩:=old b' x' (hd'.resolve_right Zo) hq e';obtain rfl:T'=U:=by rw[u2]at m';exact(Yh m').symm
   rcases p.newmu b T m with m0|⟨hb,h|⟨b0,hb0,T0,e0,ec0⟩⟩
   ·have hlt:=(hI.dom b T m0).1;have hb1:q b=true∧∃y,H.get b=some y:=by
     by_cases hw:b∈r1.W
     ·exact liveQ hp b hw
     have:=(hs hp).frame b (hn▸hlt) hw;rw[e]at this;exact⟨(sub this.symm).1,x,(sub this.symm).2⟩
    obtain⟨hqb,y,hy⟩:=hb1;have:=hI.inj b b' y x' T T' (hd.resolve_right Zo) (hd'.resolve_right Zo) hy e' m0 u1 ec;subst this;exact hq hqb
   ·rw[ec]at h;omega
   obtain⟨hq0,x0,hx0⟩:=liveQ hp b0 hb0;have:=hI.inj b0 b' x0 x' T0 T' (hDW b0 hb0) (hd'.resolve_right Zo) hx0 e' e0 u1 (ec0.trans ec);subst this;exact hq hq0
  rcases parts b x e with e|⟨_,hq,e⟩<;>rcases parts b' x' e' with e'|⟨_,hq',e'⟩
  ·exact p.inv.inj b b' x x' T T' (hn▸hd) (hn▸hd') e e' m m' ec
  ·exact(mixed hd hd' e hq' e' m m' ec).elim
  ·exact(mixed hd' hd e' hq e m' m ec.symm).elim
  have hlt:=hI.keys b x e;have hlt':=hI.keys b' x' e';obtain⟨U,_,u1,u2,_⟩:=old b x (hd.resolve_right Zo) hq e;obtain⟨U',_,u1',u2',_⟩:=old b' x' (hd'.resolve_right Zo) hq' e';obtain rfl:T=U:=by rw[u2]at m;exact(Yh m).symm
  obtain rfl:T'=U':=by rw[u2']at m';exact(Yh m').symm
  exact hI.inj b b' x x' T T' (hd.resolve_right Zo) (hd'.resolve_right Zo) e e' u1 u1' ec
end
end Go.Ab
