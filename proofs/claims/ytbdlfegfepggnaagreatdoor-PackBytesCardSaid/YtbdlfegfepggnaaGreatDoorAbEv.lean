/- A machine of our own that runs code with known arguments on abstract values: what the kernel can compute. -/
import Derived.Test.YtbdlfegfepggnaaGreatDoorF3c
set_option linter.all false
set_option maxHeartbeats 16000000
set_option maxRecDepth 100000
noncomputable section
namespace Go.Ab
inductive Tr where
 |nil
 |node (v:Option V) (l r:Tr)
def Tr.get(t:Tr):Nat→Option V:=
 Tr.rec (motive:=fun _=>Nat→Option V) (fun _=>none)
  (fun v _ _ gl gr n=>Bool.rec (Bool.rec (gr (Nat.sub (Nat.div n 2) 1)) (gl (Nat.div n 2)) (Nat.beq (Nat.mod n 2) 1)) v (Nat.beq n 0)) t
def Tr.one(x:V):Nat→Nat→Tr:=
 Nat.rec (motive:=fun _=>Nat→Tr) (fun _=>.nil)
  (fun _ f n=>Bool.rec (Bool.rec (.node none .nil (f (Nat.sub (Nat.div n 2) 1))) (.node none (f (Nat.div n 2)) .nil) (Nat.beq (Nat.mod n 2) 1)) (.node (some x) .nil .nil) (Nat.beq n 0))
def Tr.set(t:Tr)(x:V):Nat→Tr:=
 Tr.rec (motive:=fun _=>Nat→Tr) (fun n=>Tr.one x 12 n)
  (fun v l r fl fr n=>Bool.rec (Bool.rec (.node v l (fr (Nat.sub (Nat.div n 2) 1))) (.node v (fl (Nat.div n 2)) r) (Nat.beq (Nat.mod n 2) 1)) (.node (some x) l r) (Nat.beq n 0)) t
structure TS where
 t:Tr
 h:Hp
def evT(t:Tr):Operand→V
 | .tmp k=>(t.get k).getD .any
 | .const v=>cv v
 | .global k=>match GL k with|some cs=>.fp cs|none=>.any
 | .func f=>.fn f []
def leI(a b:Int):Bool:=decide (a≤b)
def ltI(a b:Int):Bool:=decide (a<b)
def eqK(a b:IntKind):Bool:=decide (a=b)
def zpa(agg:Bool)(n:Nat)(cs:ZA):Bool:=bif agg then !(Nat.beq n 0)&&Nat.ble n cs.length else !cs.isEmpty
def zxt(P:Program)(t:TypeId)(a:V)(H:Hp):Bool:=
 match aggT P t,sizeT P t,a with
 |some g,some n,.fp cs=>zpa g n cs
 |some g,some n,.ptr b off=>
  match H.get b with
  |some (.cells cs)=>zpa g n (cs.drop off)
  |some (.ty _ cs)=>zpa g n (cs.drop off)
  |some (.ro cs)=>zpa g n (cs.drop off)
  |_=>false
 |_,_,_=>false
def zxq(P:Program)(t:TypeId)(a x:V)(H:Hp):Bool:=
 match sizeT P t,a with
 |some n,.ptr b off=>
  match H.get b with
  |some (.cells cs)=>zq x&&Nat.beq x.cellsV.length n&&Nat.ble (off+n) cs.length
  |some (.ty _ cs)=>zq x&&Nat.beq x.cellsV.length n&&Nat.ble (off+n) cs.length
  |_=>false
 |_,_=>false
def zxB(P:Program)(t:TypeId):Bool:=
 match zaJ P t with
 |some z=>zq (cv z)
 |none=>false
def pNil(x:V):Bool:=
 match x with
 | .ptr .. | .fp .. | .fn .. | .bnd .. =>true
 |_=>false
def pBin(P:Program)(op:BinOp)(t:TypeId)(x y:V)(H:Hp):Bool:=
 match x,y with
 | .int k _,.int k' b=>
  match op with
  | .shl| .shr=>leI 0 b&&leI b k.bits
  | .quo| .rem=>eqK k k'&& !(decide (b=0))
  |_=>eqK k k'
 | .str a,.str b=>
  match op with
  | .add=>leI ((a.length+b.length:Nat):Int) 9223372036854775807
  | .eql| .neq| .lss| .leq| .gtr| .geq=>true
  |_=>false
 | .bool _,.bool _=>
  match op,P.underlying t with
  | .eql,some .bool=>true
  | .neq,some .bool=>true
  |_,_=>false
 |x,y=>(xEq P op t x y H).isSome
def pUn(op:UnOp)(x:V):Bool:=
 match op,x with
 | .neg,.int _ _=>true
 | .not,.bool _=>true
 |_,_=>false
def pConv(P:Program)(src dst:TypeId)(x:V)(H:Hp):Bool:=
 match P.underlying src,P.underlying dst,x with
 |some _,some (.int _),.int _ _=>true
 |some _,some .string,.str _=>true
 |some (.slice e),some .string,x=>
  match P.underlying e,zaK H x 1 with
  |some (.int .u8),some (cs,_,_)=>(bytesOf cs).isSome
  |_,_=>false
 |_,_,x=>(zfm P src dst x H).isSome
def zxx(P:Program)(t:TypeId)(x:V)(f:Nat):Bool:=
 match P.underlying t,x with
 |some (.struct fs),.agg cs=>
  match fs[f]? with
  |some fd=>
   match aggT P fd.type,sizeT P fd.type with
   |some g,some n=>zpa g n (cs.drop fd.offset)
   |_,_=>false
  |none=>false
 |_,_=>false
def zgc(P:Program)(t:TypeId)(x:V)(f:Nat):Bool:=
 match P.underlying t with
 |some (.struct fs)=>
  match fs[f]? with
  |some fd=>
   match sizeT P fd.type,x with
   |some (_+1),.ptr _ _=>true
   |some (_+1),.fp _=>true
   |_,_=>false
  |none=>false
 |_=>false
def zgb(P:Program)(t:TypeId)(x i:V):Bool:=
 match P.underlying t,i with
 |some (.slice e),.int _ n=>
  match sizeT P e,x with
  |some sz,.sl _ _ len sz' _=>Nat.beq sz' sz&&leI 0 n&&ltI n len
  |some _,.fs _ len=>leI 0 n&&ltI n len
  |_,_=>false
 |some (.array len e),.int _ n=>
  match sizeT P e,x with
  |some _,.ptr _ _=>leI 0 n&&ltI n len
  |some _,.fp _=>leI 0 n&&ltI n len
  |_,_=>false
 |_,_=>false
def zxv(P:Program)(t:TypeId)(x i:V)(H:Hp):Bool:=
 match P.underlying t,x,i with
 |some .string,.str s,.int _ n=>leI 0 n&&ltI n s.length
 |_,x,i=>(zdx P t x i H).isSome
def zxs(P:Program)(t:TypeId)(x:V)(lo hi mx:Option V)(H:Hp):Bool:=
 match P.underlying t,x,mx with
 |some .string,.str s,none=>
  match bnd lo 0,bnd hi s.length with
  |some l,some h=>leI 0 l&&leI l h&&leI h s.length
  |_,_=>false
 |some (.slice e),.nilS,none=>
  match sizeT P e,bnd lo 0,bnd hi 0 with
  |some _,some l,some h=>decide (l=0)&&decide (h=0)
  |_,_,_=>false
 |some (.slice e),.fs cs len,none=>
  match sizeT P e,bnd lo 0,bnd hi len with
  |some sz,some l,some h=>leI 0 l&&leI l h&&leI h len&&Nat.beq cs.length (len*sz)
  |_,_,_=>false
 |some (.slice e),.sl _ _ len sz' kc,none=>
  match sizeT P e,bnd lo 0,bnd hi len with
  |some sz,some l,some h=>Nat.beq sz' sz&&leI 0 l&&leI l h&&leI h (kc.getD len)
  |_,_,_=>false
 |some (.slice e),.sl _ _ len sz' kc,some m=>
  match sizeT P e,bnd lo 0,bnd hi len,bnd (some m) 0,hi with
  |some sz,some l,some h,some m,some _=>Nat.beq sz' sz&&leI 0 l&&leI l h&&leI h m&&leI m (kc.getD len)
  |_,_,_,_,_=>false
 |some (.array n e),.ptr b off,none=>
  match sizeT P e,bnd lo 0,bnd hi n,H.get b with
  |some sz,some l,some h,some (.cells cs)=>leI 0 l&&leI l h&&leI h n&&Nat.ble (off+n*sz) cs.length
  |_,_,_,_=>false
 |_,_,_=>false
def zkS(x:V)(i:Nat):Bool:=
 match x with
 | .tup vs=>(vs[i]?).isSome
 |_=>false
def pLen(P:Program)(t:TypeId)(x:V)(H:Hp):Bool:=
 match P.underlying t,x with
 |some .string,.str _=>true
 |some (.slice _),.nilS=>true
 |some (.slice _),.fs _ _=>true
 |some (.slice _),.sl _ _ _ _ _=>true
 |some (.map _ _),.nilM=>true
 |some (.map _ _),.map b=>
  match H.get b with
  |some (.mp _ _)=>true
  |_=>false
 |_,_=>false
def zxz(P:Program)(t:TypeId)(parts:List (Nat×V))(H:Hp):Bool:=
 match zaJ P t,P.underlying t with
 |some z,some (.struct fs)=>
  match placesOf P fs.toList with
  |some pl=>(zdo (pl[·]?) (cv z).cellsV parts).isSome&&zq (cv z)
  |none=>false
 |_,_=>(zdy P t parts H).isSome
def ze2(P:Program)(t:TypeId)(len:Nat)(parts:List (Nat×V)):Bool:=
 match zdq P t with
 |some e=>
  match sizeT P e,zaJ P e with
  |some s,some z=>(zdo (fun i=>some (i*s,s)) (zbc P e len) parts).isSome&&zq (cv z)&&Nat.beq (cv z).cellsV.length s&&Nat.ble (len*s) 16777216
  |_,_=>false
 |none=>false
def zf9(P:Program)(t:TypeId)(l c:V):Bool:=
 match zdq P t,l,c with
 |some e,.int _ l,.int _ c=>
  match zh9 P e,zaJ P e with
  |some (isz,ib,_),some z=>zq (cv z)&&Nat.beq (cv z).cellsV.length isz&&leI 0 l&&leI l c&&leI c 9223372036854775807&&leI ((ib:Int)*c) 281474976710656
  |_,_=>false
 |_,_,_=>false
def zpe(P:Program)(sT xT:TypeId)(s x:V)(H:Hp):Bool:=
 match zdq P sT with
 |some e=>
  match zh9 P e with
  |some (isz,ib,zok)=>
   match zak P H xT x isz with
   |some (news,n,_)=>
    bif Nat.beq n 0 then(match s with| .nilS| .sl .. | .fs .. =>true|_=>false)else
    match s with
    | .nilS=> !(Nat.beq isz 0)&&zok&&Nat.ble (n*ib) 140737488355328&&Nat.ble n 4611686018427387904&&news.all V.one
    | .sl b off len sz kc=>
     match H.get b with
     |some (.cells cs)=>
      match kc with
      |none=>Nat.beq sz isz&& !(Nat.beq isz 0)&&zok&&Nat.ble (off+len*sz) cs.length&&Nat.ble ((len+n)*ib) 140737488355328&&Nat.ble (len+n) 4611686018427387904&&news.all V.one
      |some k=>
       bif Nat.ble (len+n) k then Nat.beq sz isz&&Nat.ble (off+(len+n)*sz) cs.length&&news.all V.one
       else Nat.beq sz isz&& !(Nat.beq isz 0)&&zok&&Nat.ble (off+len*sz) cs.length&&Nat.ble ((len+n)*ib) 140737488355328&&Nat.ble (len+n) 4611686018427387904&&news.all V.one
     |some (.ty t cs)=>
      match kc with
      |none=>Nat.beq sz isz&&Nat.beq isz 1&&zok&&Nat.ble (off+len*sz) cs.length&&Nat.ble ((len+n)*ib) 140737488355328&&Nat.ble (len+n) 4611686018427387904&&news.all V.one&&Nat.beq t e&&Nat.beq off 0
      |some _=>false
     |some (.ro cs)=>
      match kc with
      |none=>false
      |some k=>
       bif Nat.ble (len+n) k then false
       else Nat.beq sz isz&& !(Nat.beq isz 0)&&zok&&Nat.ble (off+len*sz) cs.length&&Nat.ble ((len+n)*ib) 140737488355328&&Nat.ble (len+n) 4611686018427387904&&news.all V.one
     |_=>false
    |_=>false
   |none=>(ziI P e xT s x H).isSome
  |none=>false
 |none=>false
def zga(P:Program)(t:TypeId):Bool:=
 match P.underlying t with
 |some (.interface _)=>false
 |some _=>true
 |none=>false
def zpd(P:Program)(x:V)(asserted:TypeId)(ok:Bool):Bool:=
 match P.underlying asserted,zaJ P asserted,x with
 |some _,some _,.ifc t _=> !(zng P asserted)&&(Nat.beq t asserted||ok)
 |some _,some _,.nilI=> !(zng P asserted)&&ok
 |_,_,_=>false
def zkT(P:Program)(b:Builtin)(ts:Array TypeId)(args:ZA)(H:Hp):Bool:=
 match b,args with
 | .len,[x]=>match ts[0]? with|some t=>pLen P t x H|none=>false
 | .append,[s,x]=>match ts.toList with|[sT,xT]=>zpe P sT xT s x H|_=>false
 | .max,[x,y]=>match x,y with| .int ..,.int .. =>true|_,_=>false
 | .min,[x,y]=>match x,y with| .int ..,.int .. =>true|_,_=>false
 | .cap,[x]=>match ts[0]? with|some t=>(xCap P t x H).isSome|none=>false
 | .copy,[d,x]=>match ts.toList with|[dT,xT]=>(zfl P dT xT d x H).isSome|_=>false
 | .clear,[x]=>match ts[0]? with|some t=>(zfn P t x H).isSome|none=>false
 | .unsafeSliceData,[x]=>(za9 x H).isSome
 | .unsafeString,[x,n]=>match ts.toList with|[pt,_]=>(zcn P pt x n H).isSome|_=>false
 |_,_=>false
def step1R(C:Cfg)(P:Program)(ρ:Operand→V)(op:Op)(H:Hp):SR:=
 match op with
 | .pick c a b=>zc9 (ρ c) (ρ a) (ρ b) H
 | .call { callee:=.value f,args,.. }=>
  match (ρ f).val with
  | .fn fid caps=>zcw C fid (args.toList.map (fun x=>(ρ x).val)++caps) ((ρ f).cond∧needs (args.toList.map ρ)) H
  | .bnd fid fs=>zcw C fid (fs++args.toList.map (fun x=>(ρ x).val)) ((ρ f).cond∧needs (args.toList.map ρ)) H
  |_=>.bad
 | .panic x=>
  match (ρ x).val with
  | .ifc t v=>.pan (ρ x).cond (.ifc t v) []
  |_=>.bad
 | .box t x=>
  if C.fz t=true then .ok true ((ρ x).cond∧zq (ρ x).val=true) (.fp (ρ x).val.cellsV) H ⟨[],[],H.next,H.next⟩
  else .ok false (needs [ρ x]∧(aop P (fun x=>(ρ x).val) (.box t x) H).pre) (aop P (fun x=>(ρ x).val) (.box t x) H).v (aop P (fun x=>(ρ x).val) (.box t x) H).h
   ⟨(aop P (fun x=>(ρ x).val) (.box t x) H).R,(aop P (fun x=>(ρ x).val) (.box t x) H).W,H.next,(aop P (fun x=>(ρ x).val) (.box t x) H).h.next⟩
 |op=>.ok (zeU op) (needs (op.operands.toList.map ρ)∧(aop P (fun x=>(ρ x).val) op H).pre) (aop P (fun x=>(ρ x).val) op H).v (aop P (fun x=>(ρ x).val) op H).h
  ⟨(aop P (fun x=>(ρ x).val) op H).R,(aop P (fun x=>(ρ x).val) op H).W,H.next,(aop P (fun x=>(ρ x).val) op H).h.next⟩
def unopt:V→Option V
 | .int k n=>some (.int k n)
 | .bool b=>some (.bool b)
 | .str s=>some (.str s)
 | .sl b o l s c=>some (.sl b o l s c)
 | .ptr b o=>some (.ptr b o)
 | .fs c n=>some (.fs c n)
 | .fp c=>some (.fp c)
 | .agg c=>some (.agg c)
 | .tup c=>some (.tup c)
 | .fn f c=>some (.fn f c)
 | .bnd f c=>some (.bnd f c)
 | .map b=>some (.map b)
 | .ifc t v=>some (.ifc t v)
 | .nilS=>some .nilS
 | .nilP=>some .nilP
 | .nilM=>some .nilM
 | .nilF=>some .nilF
 | .nilI=>some .nilI
 | .any=>none
 | .opt b v=>match b with|true=>some v|false=>none
def fetch(t:Tr):Operand→Option V
 | .tmp k=>match t.get k with|some v=>unopt v|none=>none
 | .const v=>unopt (cv v)
 | .global k=>match GL k with|some cs=>some (.fp cs)|none=>none
 | .func f=>some (.fn f [])
def zgy(t:Tr):List Operand→Option ZA
 |[]=>some []
 |x::r=>match fetch t x with|some v=>(match zgy t r with|some l=>some (v::l)|none=>none)|none=>none
def znt(t:Tr):Option Operand→Option (Option V)
 |none=>some none
 |some x=>match fetch t x with|some v=>some (some v)|none=>none
def zns(t:Tr):List (Nat×Operand)→Option (List (Nat×V))
 |[]=>some []
 |x::r=>match fetch t x.2 with|some v=>(match zns t r with|some l=>some ((x.1,v)::l)|none=>none)|none=>none
inductive ER where
 |ok (st:Bool) (v:V) (h:Hp) (f:Foot)
 |pan (v:V)
 |bad
def eFin(st p:Bool)(r:AR)(H:Hp):ER:=bif p then .ok st r.v r.h ⟨r.R,r.W,H.next,r.h.next⟩else .bad
def eXR(q:Option XR)(H:Hp):ER:=
 match q with
 |some r=>.ok false r.v r.h ⟨r.R,r.W,H.next,r.h.next⟩
 |none=>.bad
def eVal(v:V)(H:Hp):ER:=.ok true v H ⟨[],[],H.next,H.next⟩
def eCall(C:Cfg)(fid:FuncId)(ags:ZA)(H:Hp):ER:=
 bif (zcq ags).isEmpty then
  match C.Γ fid (ags.map nz)with
  |some (.ret v)=>.ok true v H ⟨[],[],0,0⟩
  |some (.panic v)=>.pan v
  |none=>
   match C.Δ fid ags H with
   |some r=>.ok false r.v r.h ⟨r.R,r.W,H.next,r.h.next⟩
   |none=>.bad
 else
  match C.Δ fid ags H with
  |some r=>.ok false r.v r.h ⟨r.R,r.W,H.next,r.h.next⟩
  |none=>
   match C.Γ fid (ags.map (lend H))with
   |some (.ret v)=>bif zaz v then .ok true v H ⟨zcq ags,[],0,0⟩else .bad
   |some (.panic v)=>bif zaz v then .pan v else .bad
   |none=>.bad
def zi8(C:Cfg)(P:Program)(t:Tr)(op:Op)(H:Hp):ER:=
 match op with
 | .move x| .assign x=>match fetch t x with|some v=>eVal v H|none=>.bad
 | .load ty a=>match fetch t a with|some v=>eFin true (zxt P ty v H) (zcr P ty v H) H|none=>.bad
 | .binOp b ty x y _=>match fetch t x with
  |some v=>(match fetch t y with|some u=>eFin true (pBin P b ty v u H) (aBin P b ty v u H) H|none=>.bad)
  |none=>.bad
 | .pick c x y=>match fetch t c with
  |some (.bool true)=>(match fetch t x with
   |some v=>.ok true v H ⟨[],[],0,0⟩
   |none=>.bad)
  |some (.bool false)=>(match fetch t y with
   |some v=>.ok true v H ⟨[],[],0,0⟩
   |none=>.bad)
  |_=>.bad
 | .indexAddr ty x i=>match fetch t x with
  |some v=>(match fetch t i with|some u=>eFin true (zgb P ty v u) (zY P ty v u H) H|none=>.bad)
  |none=>.bad
 | .index ty x i=>match fetch t x with
  |some v=>(match fetch t i with|some u=>eFin true (zxv P ty v u H) (zbZ P ty v u H) H|none=>.bad)
  |none=>.bad
 | .store ty a x=>match fetch t a with
  |some v=>(match fetch t x with|some u=>eFin false (zxq P ty v u H) (zd2 P ty v u H) H|none=>.bad)
  |none=>.bad
 | .nilCheck x=>match fetch t x with|some v=>eFin true (pNil v) (aNil v H) H|none=>.bad
 | .fieldAddr ty x f=>match fetch t x with|some v=>eFin true (zgc P ty v f) (zay P ty v f H) H|none=>.bad
 | .field ty x f=>match fetch t x with|some v=>eFin true (zxx P ty v f) (zfV P ty v f H) H|none=>.bad
 | .extract x i=>match fetch t x with|some v=>eFin true (zkS v i) (zbi v i H) H|none=>.bad
 | .unOp o _ x=>match fetch t x with|some v=>eFin true (pUn o v) (aUn o v H) H|none=>.bad
 | .convert s d x=>match fetch t x with|some v=>eFin false (pConv P s d v H) (zcy P s d v H) H|none=>.bad
 | .makeInterface ty x=>match fetch t x with|some v=>eFin true (zga P ty) (zbv P ty v H) H|none=>.bad
 | .typeAssert x _ ty ok=>match fetch t x with|some v=>eFin true (zpd P v ty ok) (zdW P v ty ok H) H|none=>.bad
 | .alloc ty=>eFin false (zxB P ty) (zeQ P ty H) H
 | .box ty x=>match fetch t x with
  |some v=>bif zq v then(bif C.fz ty then eVal (.fp v.cellsV) H else .ok false (.ptr H.next 0) (H.new (.cells v.cellsV)) ⟨[],[],H.next,H.next+1⟩)else .bad
  |none=>.bad
 | .build ty ps=>match zns t ps.toList with|some l=>eFin true (zxz P ty l H) (zc4 P ty l H) H|none=>.bad
 | .buildSlice ty n ps=>match zns t ps.toList with|some l=>eFin false (ze2 P ty n l) (zM P ty n l H) H|none=>.bad
 | .makeFunc (.func f) first caps=>
  bif Nat.beq first.size 0 then(match zgy t caps.toList with|some l=>eVal (.fn f l) H|none=>.bad)
  else bif Nat.beq caps.size 0 then(match zgy t first.toList with|some l=>eVal (.bnd f l) H|none=>.bad)else .bad
 | .makeSlice ty l c=>match fetch t l with
  |some v=>(match fetch t c with|some u=>eFin false (zf9 P ty v u) (zaF P ty v u H) H|none=>.bad)
  |none=>.bad
 | .slice ty x lo hi mx=>match fetch t x with
  |some v=>(match znt t lo with
   |some l=>(match znt t hi with
    |some h=>(match znt t mx with
     |some m=>eFin true (zxs P ty v l h m H) (zbp P ty v l h m H) H
     |none=>.bad)
    |none=>.bad)
   |none=>.bad)
  |none=>.bad
 | .call { callee:=.value f,args,.. }=>match fetch t f with
  |some (.fn fid caps)=>(match zgy t args.toList with|some l=>eCall C fid (l++caps) H|none=>.bad)
  |some (.bnd fid fs)=>(match zgy t args.toList with|some l=>eCall C fid (fs++l) H|none=>.bad)
  |_=>.bad
 | .call { callee:=.builtin b,args,argTypes }=>match zgy t args.toList with
  |some l=>eFin (zeU op) (zkT P b argTypes l H) (zcd P b argTypes l H) H
  |none=>.bad
 | .panic x=>match fetch t x with
  |some (.ifc ty v)=>.pan (.ifc ty v)
  |_=>.bad
 | .makeMap _ none=>eXR (zez H) H
 | .lookup ty x k ok=>match fetch t x with
  |some v=>(match fetch t k with|some u=>eXR (zbb P ty v u ok H) H|none=>.bad)
  |none=>.bad
 | .mapUpdate ty m k x| .insert ty m k x=>match fetch t m with
  |some mv=>(match fetch t k with
   |some kv=>(match fetch t x with|some xv=>eXR (zax P ty mv kv xv H) H|none=>.bad)
   |none=>.bad)
  |none=>.bad
 | .mapEntry ty m k=>match fetch t m with
  |some mv=>(match fetch t k with|some kv=>eXR (zbQ P ty mv kv H) H|none=>.bad)
  |none=>.bad
 | .entryStore _ m n x=>match fetch t m with
  |some mv=>(match fetch t n with
   |some nv=>(match fetch t x with|some xv=>eXR (zaZ mv nv xv H) H|none=>.bad)
   |none=>.bad)
  |none=>.bad
 | .range ty x=>match fetch t x with|some v=>eXR (zdX P ty v H) H|none=>.bad
 | .entry x=>match fetch t x with|some v=>eXR (zfk v H) H|none=>.bad
 |_=>.bad
def TS.put(s:TS)(dst:Option Tmp)(v:V)(h:Hp):TS:=
 match dst with
 |some d=>⟨s.t.set v d,h⟩
 |none=>⟨s.t,h⟩
def eGval(ops:Array Oper)(t:Tr)(o:Oper):Option Bool:=
 match o.guard with
 |none=>some true
 |some (j,want)=>
  match (ops[j]?).bind (·.dst)with
  |some d=>match t.get d with
   |some (.bool b)=>some (b==want)
   |some (.opt c (.bool b))=>some (c&&(b==want))
   |some (.opt false _)=>some false
   |some (.tup [])=>some false
   |_=>none
  |none=>none
def zeB(C:Cfg)(fid:FuncId)(ags:ZA)(H:Hp):V×Foot:=
 bif (zcq ags).isEmpty then
  match C.Γ fid (ags.map nz)with
  |some (.ret v)=>(.opt false v,⟨[],[],0,0⟩)
  |_=>(undefV,⟨[],[],0,0⟩)
 else
  match C.Γ fid (ags.map (lend H))with
  |none=>(undefV,⟨[],[],0,0⟩)
  |some _=>
   match zcw C fid ags True H with
   | .ok true _ v _ f=>(.opt false v,⟨f.R,[],0,0⟩)
   |_=>(undefV,⟨[],[],0,0⟩)
def zpU(C:Cfg)(P:Program)(ρ:Operand→V)(op:Op)(H:Hp):V×Foot:=
 match op with
 | .call { callee:=.value f,args,.. }=>
  match (ρ f).val with
  | .fn fid caps=>zeB C fid (args.toList.map (fun x=>(ρ x).val)++caps) H
  | .bnd fid fs=>zeB C fid (fs++args.toList.map (fun x=>(ρ x).val)) H
  |_=>(undefV,⟨[],[],0,0⟩)
 |op=>
  match step1R C P ρ op H with
  | .ok true _ v _ f=>(.opt false v,⟨f.R,[],0,0⟩)
  |_=>(undefV,⟨[],[],0,0⟩)
def eRun(C:Cfg)(P:Program)(ops:Array Oper)(d:Bool):List Oper→Nat→TS→List (Nat×Foot)→Option (Out×TS)
 |[],_,s,acc=>bif d then(bif chk ops acc then some (.norm,s)else none)else some (.norm,s)
 |o::os,i,s,acc=>
  match eGval ops s.t o with
  |some true=>
   match zi8 C P s.t o.op s.h with
   | .ok st v h f=>
    bif o.guard.isNone|| !st then(bif wok C f.W then eRun C P ops d os (i+1) (s.put o.dst v h) (bif d then accF acc i f else acc)else none)
    else eRun C P ops d os (i+1) (s.put o.dst (.opt true v) s.h) (bif d then accF acc i ⟨f.R,[],0,0⟩else acc)
   | .pan v=>bif d then(bif ze1 ops i&&chk ops acc then some (.panic v,s)else none)else some (.panic v,s)
   | .bad=>none
  |some false=>eRun C P ops d os (i+1) (s.put o.dst (zpU C P (evT s.t) o.op s.h).1 s.h) (bif d then accF acc i (zpU C P (evT s.t) o.op s.h).2 else acc)
  |none=>none
abbrev OL:=Option (List (Out×TS))
def single:Option (Out×TS)→OL
 |some p=>some [p]
 |none=>none
def zi9(f:TS→OL):List (Out×TS)→OL
 |[]=>some []
 |p::r=>
  match p with
  |(.norm,s)=>
   match r with
   |[]=>f s
   |_=>match f s with
    |some l=>(match zi9 f r with|some l'=>some (l++l')|none=>none)
    |none=>none
  |(o,s)=>match zi9 f r with|some l'=>some ((o,s)::l')|none=>none
def zuT(f:TS→OL):Nat→TS→OL
 |0,_=>none
 |n+1,s=>match f s with
  |some l=>zi9 (zuT f n) l
  |none=>none
def endB(id:Nat):List (Out×TS)→List (Out×TS)
 |[]=>[]
 |p::r=>(match p with
  |(.exit i,s)=>bif Nat.beq i id then(.norm,s)else(.exit i,s)
  |p=>p)::endB id r
def zuU(C:Cfg)(P:Program)(ops:Array Oper)(o:Oper)(os:List Oper)(s:TS):List XR→OL
 |[]=>some []
 |q::r=>
  bif wok C q.W then
   match eRun C P ops false os 1 (s.put o.dst q.v q.h) []with
   |some p=>(match zuU C P ops o os s r with|some l=>some (p::l)|none=>none)
   |none=>none
  else none
structure TP where
 s:TS
 v:V
 f:Foot
 e:TS
def zgB(C:Cfg)(P:Program):List Oper→TS→Option (List TP×TS)
 |[],s=>some ([],s)
 |o::os,s=>
  match o.guard with
  |some _=>none
  |none=>
   match zi8 C P s.t o.op s.h with
   | .ok _ v h f=>
    bif wok C f.W then
     match zgB C P os (s.put o.dst v h)with
     |some (l,e)=>some (⟨s,v,f,s.put o.dst v h⟩::l,e)
     |none=>none
    else none
   |_=>none
def lateB(P:Program)(o:Option Oper)(a c:TP):Bool:=
 match o with
 |some o=>
  match o.op with
  | .lookup ty x k false=>
   match fetch a.s.t x,fetch a.s.t k with
   |some (.map b),some kv=>
    match c.e.h.get b with
    |some y=>
     match zbb P ty (.map b) kv false (a.s.h.put b y)with
     |some r=>beqV r.v a.v&&Nat.beq c.e.h.next a.s.h.next
     |none=>false
    |none=>false
   |_,_=>false
  |_=>false
 |none=>false
def zrD(P:Program)(ops:Array Oper)(ms:ZN)(l:List TP)(i j:Nat):Bool:=
 match l[i]?,l[j]? with
 |some a,some c=> !clash a.f c.f||ordB ms i j||(lateB P ops[i]? a c&&(List.range l.length).all fun k=> !decide (i<k)||Nat.beq k j||(match l[k]? with|some e=> !clash a.f e.f|none=>true)||ordB ms i k)
 |_,_=>true
def eLate(C:Cfg)(P:Program)(ops:Array Oper)(s:TS):OL:=
 match zgB C P ops.toList s with
 |some (l,e)=>bif (List.range l.length).all fun i=>(List.range l.length).all fun j=> !decide (i<j)||zrD P ops (masks ops) l i j then some [(.norm,e)]else none
 |none=>none
def zim(C:Cfg)(P:Program)(ops:Array Oper)(d:Bool)(s:TS):OL:=
 match d,ops.toList with
 |false,o::os=>
  match o.op,o.guard with
  | .next it false,none=>
   match fetch s.t it with
   |some v=>(match zj8 v s.h with
    |some l=>zuU C P ops o os s l
    |none=>none)
   |none=>none
  |_,_=>single (eRun C P ops false (o::os) 0 s [])
 |false,l=>single (eRun C P ops false l 0 s [])
 |true,l=>
  match eRun C P ops true l 0 s []with
  |some p=>some [p]
  |none=>eLate C P ops s
def zdr(C:Cfg)(P:Program)(N:Nat):Code→TS→OL
 | .skip,s=>some [(.norm,s)]
 | .ret,s=>some [(.ret,s)]
 | .exit id,s=>some [(.exit id,s)]
 | .seq x y,s=>match zdr C P N x s with
  |some l=>zi9 (zdr C P N y) l
  |none=>none
 | .block id x,s=>match zdr C P N x s with
  |some l=>some (endB id l)
  |none=>none
 | .cond c x y,s=>match evT s.t c with
  | .bool b=>bif b then zdr C P N x s else zdr C P N y s
  |_=>none
 | .region _ ops d,s=>zim C P ops d s
 | .loop x,s=>zuT (zdr C P N x) N s
 |_,_=>none
def eRes(P:Program)(s:TS):List ResultVar→Option ZA
 |[]=>some []
 | .tmp t::r=>match eRes P s r with|some l=>some ((s.t.get t).getD .any::l)|none=>none
 | .cell c t::r=>bif zxt P t ((s.t.get c).getD .any) s.h then(match eRes P s r with|some l=>some ((zcr P t ((s.t.get c).getD .any) s.h).v::l)|none=>none)else none
def zvz:Nat→Tr→ZA→Tr
 |_,t,[]=>t
 |i,t,a::r=>zvz (i+1) (t.set a i) r
structure ECfg where
 Γ:FuncId→ZA→Option PR
 can:FuncId→Bool
 wr:FuncId→Nat
 fz:TypeId→Bool
 N:Nat
 spec:(FuncId→ZA→Hp→Option AR)→FuncId→ZA→Hp→Option AR
def keysOf(l:ZH):ZN:=l.map (·.1)
def zmH:V→ZN
 | .sl b .. =>[b]
 | .ptr b _=>[b]
 | .map b=>[b]
 | .ifc _ (.ptr b _)=>[b]
 | .ifc _ (.sl b ..)=>[b]
 | .ifc _ (.map b)=>[b]
 | .fn _ cs=>cs.flatMap fun c=>match c with| .sl b .. =>[b]| .ptr b _=>[b]| .map b=>[b]|_=>[]
 | .bnd _ cs=>cs.flatMap fun c=>match c with| .sl b .. =>[b]| .ptr b _=>[b]| .map b=>[b]|_=>[]
 | .agg cs=>cs.flatMap fun c=>match c with| .sl b .. =>[b]| .ptr b _=>[b]| .map b=>[b]|_=>[]
 |_=>[]
def refsB(H:Hp)(b:Nat):ZN:=
 match H.get b with
 |some (.cells cs)=>b::cs.flatMap zmH
 |some (.ty _ cs)=>b::cs.flatMap zmH
 |some (.ro cs)=>b::cs.flatMap zmH
 |some (.mp es _)=>b::es.flatMap fun e=>zmH e.2.2
 |some (.it (some m) _ _ _ _ _)=>[b,m]
 |some (.it none _ _ _ _ _)=>[b]
 |some (.si _ _)=>[b]
 |none=>[]
def reach(H:Hp):Nat→ZN→ZN
 |0,l=>l.filter fun b=>(H.get b).isSome
 |n+1,l=>reach H n (l.flatMap (refsB H))
def wrOf(n:Nat)(args:ZA)(H:Hp):ZN:=
 match n with
 |0=>[]
 |n+1=>reach H n (args.flatMap zmH)
def close(H:Hp):Nat→ZN→ZN→ZN
 |0,_,done=>done
 |n+1,todo,done=>
  match todo with
  |[]=>done
  |b::r=>bif done.contains b then close H n r done else close H n ((refsB H b).tail++r) (b::done)
def restr(L:ZN)(H:Hp):Hp:=⟨H.bs.filter fun p=>L.contains p.1,H.next⟩
def zwN(L:ZN)(H:Hp):ZH:=H.bs.filter fun p=> !L.contains p.1
def joinR(L:ZN)(H:Hp)(r:AR):AR:={ r with h:=⟨r.h.bs++zwN L H,r.h.next⟩ }
def zcK(n:Nat)(K:ZN)(h:Hp):Hp:=⟨h.bs.filter fun p=>Nat.blt p.1 n||K.contains p.1,h.next⟩
def zeY(W:ZN)(l:ZA)(h:Hp):ZN:=l.flatMap zmH++W.flatMap fun b=>(refsB h b).tail
def eOut(P:Program)(fn:Func)(W:ZN)(H:Hp):Out×TS→Option AR
 |(o,s)=>
  match o with
  | .norm| .ret=>
   match eRes P s fn.results.toList with
   |some l=>some ⟨True,tupV l,zcK H.next (close s.h 100000 (zeY W l s.h) []) s.h,keysOf H.bs,W⟩
   |none=>none
  |_=>none
def zrk(a b:Hp):Hp:=⟨b.bs,bif Nat.ble a.next b.next then b.next else a.next⟩
def eOuts(f:Out×TS→Option AR):List (Out×TS)→Option AR
 |[]=>none
 |p::r=>
  match r with
  |[]=>f p
  |_=>match f p with
   |some a=>(match eOuts f r with
    |some b=>bif beqV a.v b.v&&zqo a.h.bs b.h.bs then some { b with h:=zrk a.h b.h }else none
    |none=>none)
   |none=>none
def eBody(E:ECfg)(P:Program)(rec:FuncId→ZA→Hp→Option AR)(f:FuncId)(args:ZA)(H:Hp):Option AR:=
 match P.funcs[f]? with
 |some fn=>
  match fn.body with
  |some c=>
   bif zas fn.ntmps c&&Nat.ble args.length fn.ntmps&&Nat.ble fn.ntmps 4000 then
    match zdr ⟨fn.ntmps,fun _=>true,E.Γ,rec,H.next,wrOf (E.wr f) args H,E.fz,[]⟩ P E.N c ⟨zvz 0 .nil args,H⟩with
    |some l=>eOuts (eOut P fn (wrOf (E.wr f) args H) H) l
    |none=>none
   else none
  |none=>none
 |none=>none
def eFn(E:ECfg)(P:Program):Nat→FuncId→ZA→Hp→Option AR
 |0,_,_,_=>none
 |n+1,f,args,H=>
  match E.spec (eFn E P n) f args H with
  |some r=>some r
  |none=>
   bif E.can f then
    match eBody E P (eFn E P n) f args (restr (close H 100000 (args.flatMap zmH) []) H)with
    |some r=>some (joinR (close H 100000 (args.flatMap zmH) []) H r)
    |none=>none
   else none
end Go.Ab
