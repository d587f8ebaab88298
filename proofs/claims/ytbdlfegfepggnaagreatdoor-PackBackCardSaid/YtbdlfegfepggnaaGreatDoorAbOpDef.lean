/- What each operation does to abstract values and the abstract heap. -/
import Derived.Test.YtbdlfegfepggnaaGreatDoorAZ
import Derived.Laws.Entries
set_option linter.all false
set_option maxHeartbeats 16000000
set_option maxRecDepth 100000
noncomputable section
namespace Go.Ab
structure AR where
 pre:Prop
 v:V
 h:Hp
 R:ZN
 W:ZN
def AR.bad(H:Hp):AR:=⟨False,.any,H,[],[]⟩
def AR.val(H:Hp)(v:V):AR:=⟨True,v,H,[],[]⟩
def AR.if(H:Hp)(p:Prop)(v:V):AR:=⟨p,v,H,[],[]⟩
structure XR where
 v:V
 h:Hp
 R:ZN
 W:ZN
def XR.ar(H:Hp):Option XR→AR
 |some q=>⟨True,q.v,q.h,q.R,q.W⟩
 |none=>.bad H
def undefV:V:=.tup []
def cv1:Value→V
 | .bool b=>.bool b
 | .int k n=>.int k n
 | .string s=>.str s.data.toList
 | .pointer none=>.nilP
 | .slice none 0 0=>.nilS
 | .map none=>.nilM
 | .nilFunc=>.nilF
 | .nilIface=>.nilI
 |_=>.any
def cv:Value→V
 | .agg cs=>.agg (cs.toList.map cv1)
 | .tuple cs=>.tup (cs.toList.map cv1)
 |v=>cv1 v
abbrev Env:=List (Nat×V)
def ev(env:Env):Operand→V
 | .tmp t=>(env.lookup t).getD .any
 | .const v=>cv v
 | .global k=>match GL k with|some cs=>.fp cs|none=>.any
 | .func f=>.fn f []
def aggT(P:Program)(t:TypeId):Option Bool:=
 match P.underlying t with
 |some (.struct _)|some (.array _ _)=>some true
 |some _=>some false
 |none=>none
def zF(P:Program)(t:TypeId):Option Nat:=(P.info? t).map (·.size)
def zaw(P:Program)(t:TypeId):Option Value:=(P.info? t).bind (·.zero)
def zho(P:Program)(t:TypeId):Option (Nat×Nat×Bool):=
 (P.info? t).map fun i=>(i.size,i.bytes,match i.zero with|some z=>z.cells.size==i.size|none=>false)
def zdv(P:Program)(t:TypeId):Option TypeId:=
 match P.underlying t with
 |some (.slice e)=>some e
 |_=>none
def zek(agg:Bool)(n:Nat)(cs:ZA):V:=if agg then .agg (cs.take n)else(cs.head?).getD .any
def zbw(agg:Bool)(n:Nat)(cs:ZA):Prop:=if agg then n≠0∧n≤cs.length else cs≠[]
def zcW(P:Program)(t:TypeId)(a:V)(H:Hp):AR:=
 match aggT P t,zF P t,a with
 |some g,some n,.fp cs=>⟨zbw g n cs,zek g n cs,H,[],[]⟩
 |some g,some n,.ptr b off=>
  match H.get b with
  |some (.cells cs)=>⟨zbw g n (cs.drop off),zek g n (cs.drop off),H,[b],[]⟩
  |some (.ty _ cs)=>⟨zbw g n (cs.drop off),zek g n (cs.drop off),H,[b],[]⟩
  |some (.ro cs)=>⟨zbw g n (cs.drop off),zek g n (cs.drop off),H,[b],[]⟩
  |_=>.bad H
 |_,_,_=>.bad H
def zt(x:V):Bool:=match x with| .agg cs=>cs.all V.one|v=>v.one
def putCells(cs:ZA)(off:Nat)(xs:ZA):ZA:=
 match xs with
 |[x]=>cs.set off x
 |xs=>cs.take off++xs++cs.drop (off+xs.length)
def zef(P:Program)(t:TypeId)(a x:V)(H:Hp):AR:=
 match zF P t,a with
 |some n,.ptr b off=>
  match H.get b with
  |some (.cells cs)=>⟨zt x=true∧x.cellsV.length=n∧off+n≤cs.length,undefV,H.put b (.cells (putCells cs off x.cellsV)),[b],[b]⟩
  |some (.ty t' cs)=>⟨zt x=true∧x.cellsV.length=n∧off+n≤cs.length,undefV,H.put b (.ty t' (putCells cs off x.cellsV)),[b],[b]⟩
  |_=>.bad H
 |_,_=>.bad H
def aBox(x:V)(H:Hp):AR:=⟨zt x=true,.ptr H.next 0,H.new (.cells x.cellsV),[],[]⟩
def zeP(P:Program)(t:TypeId):Bool:=
 (match P.underlying t with
 |some (.struct fs)=>fs.toList.any fun f=>match P.underlying f.type with|some (.pointer u)=>Nat.beq u t|_=>false
 |_=>false)&&match zaw P t with|some z=>Nat.ble z.cells.size maxLen|none=>false
def rowT(P:Program)(e:TypeId):Bool:=
 match P.underlying e with
 |some (.int .u8)=>(match P.info? e with|some i=>Nat.beq i.size 1|none=>false)
 |_=>false
def rowB(b:Bool)(t:TypeId)(cs:ZA):Blk:=match b with|true=>.ty t cs|false=>.cells cs
def zfS(P:Program)(t:TypeId)(H:Hp):AR:=
 match zaw P t with
 |some z=>⟨zt (cv z)=true,.ptr H.next 0,H.new (rowB (zeP P t) t (cv z).cellsV),[],[]⟩
 |none=>.bad H
def aNil(x:V)(H:Hp):AR:=
 match x with
 | .ptr .. | .fp .. | .fn .. | .bnd .. =>.val H x
 |_=>.bad H
def cmpI(op:BinOp)(a b:Int):Bool:=
 match op with
 | .eql=>a==b| .neq=>a != b| .lss=>decide (a<b)| .leq=>decide (a≤b)| .gtr=>decide (b<a)|_=>decide (b≤a)
def ltS(a b:ZL):Bool:=Op.bytesLess a b
def zcM:V→V→Option Bool
 | .int k a,.int k' b=>match decide (k=k')with|true=>some (a==b)|false=>none
 | .str a,.str b=>some (a==b)
 | .bool a,.bool b=>some (a==b)
 |_,_=>none
def zfM:ZA→ZA→Option Bool
 |[],[]=>some true
 |a::r,b::s=>
  match zcM a b with
  |some true=>zfM r s
  |some false=>some false
  |none=>none
 |_,_=>none
def zvY(a b:V):Option Bool:=
 match a,b with
 | .agg cs,.agg ds=>zfM cs ds
 |a,b=>zcM a b
def plainT(P:Program)(t:TypeId):Bool:=
 match P.underlying t with
 |some (.int _)=>true
 |some .string=>true
 |some .bool=>true
 |_=>false
def zoc(P:Program):List Field→Nat→Bool
 |[],_=>true
 |f::r,i=>f.name != "_" &&Nat.beq f.offset i&&plainT P f.type&&(match zF P f.type with|some 1=>true|_=>false)&&zoc P r (i+1)
def zwp(P:Program)(t:TypeId):Option (List Field):=
 match P.underlying t with
 |some (.struct fs)=>match zoc P fs.toList 0&& !P.stoodInHeld t&& !P.eqGuardType P.depth t with|true=>some fs.toList|false=>none
 |_=>none
def zdJ(P:Program)(kt:TypeId)(k:V):Bool:=
 match P.underlying kt,k with
 |some (.int _),.int .. =>true
 |some .string,.str _=>true
 |some .bool,.bool _=>true
 |_,_=>false
def zeZ(P:Program):List Field→ZA→Bool
 |[],[]=>true
 |f::r,c::s=>zdJ P f.type c&&zeZ P r s
 |_,_=>false
def keyT(P:Program)(kt:TypeId)(k:V):Bool:=
 match k with
 | .agg cs=>match zwp P kt with|some fs=>zeZ P fs cs|none=>false
 |k=>zdJ P kt k
def eqV(P:Program)(t:TypeId)(x y:V):Option Bool:=
 match P.underlying t,x,y with
 |some (.pointer _),.nilP,.nilP=>some true
 |some (.pointer _),.nilP,.ptr .. =>some false
 |some (.pointer _),.nilP,.fp _=>some false
 |some (.pointer _),.ptr ..,.nilP=>some false
 |some (.pointer _),.fp _,.nilP=>some false
 |some (.pointer u),.ptr b o,.ptr b' o'=>
  match Nat.beq b b'&&Nat.beq o o',zF P u with
  |true,some _=>some true
  |_,_=>none
 |some (.slice _),.nilS,.nilS=>some true
 |some (.slice _),.nilS,.sl .. =>some false
 |some (.slice _),.sl ..,.nilS=>some false
 |some (.slice _),.nilS,.fs _ (_+1)=>some false
 |some (.slice _),.fs _ (_+1),.nilS=>some false
 |some (.map _ _),.nilM,.nilM=>some true
 |some (.map _ _),.nilM,.map _=>some false
 |some (.map _ _),.map _,.nilM=>some false
 |some (.func ..),.nilF,.nilF=>some true
 |some (.func ..),.nilF,.fn .. =>some false
 |some (.func ..),.fn ..,.nilF=>some false
 |some (.func ..),.nilF,.bnd .. =>some false
 |some (.func ..),.bnd ..,.nilF=>some false
 |some (.struct _),.agg cs,.agg ds=>
  match keyT P t (.agg cs)&&keyT P t (.agg ds)with
  |true=>zfM cs ds
  |false=>none
 |_,_,_=>none
def xEq(P:Program)(op:BinOp)(t:TypeId)(x y:V)(H:Hp):Option XR:=
 match op,eqV P t x y with
 | .eql,some b=>some ⟨.bool b,H,[],[]⟩
 | .neq,some b=>some ⟨.bool (!b),H,[],[]⟩
 |_,_=>none
def aBin(P:Program)(op:BinOp)(t:TypeId)(x y:V)(H:Hp):AR:=
 match x,y with
 | .int k a,.int k' b=>
  match op with
  | .shl=>⟨0≤b∧b≤k.bits,.int k (k.wrap (a*2^b.toNat)),H,[],[]⟩
  | .shr=>⟨0≤b∧b≤k.bits,.int k (a/2^b.toNat),H,[],[]⟩
  | .add=>⟨k=k',.int k (k.wrap (a+b)),H,[],[]⟩
  | .sub=>⟨k=k',.int k (k.wrap (a-b)),H,[],[]⟩
  | .mul=>⟨k=k',.int k (k.wrap (a*b)),H,[],[]⟩
  | .quo=>⟨k=k'∧b≠0,.int k (k.wrap (a.tdiv b)),H,[],[]⟩
  | .rem=>⟨k=k'∧b≠0,.int k (a.tmod b),H,[],[]⟩
  | .and| .or| .xor| .andNot=>⟨k=k',.int k (Go.bits op k a b),H,[],[]⟩
  | .eql=>⟨k=k',.bool (a==b),H,[],[]⟩
  | .neq=>⟨k=k',.bool (a != b),H,[],[]⟩
  | .lss=>⟨k=k',.bool (decide (a<b)),H,[],[]⟩
  | .leq=>⟨k=k',.bool (decide (a≤b)),H,[],[]⟩
  | .gtr=>⟨k=k',.bool (decide (b<a)),H,[],[]⟩
  | .geq=>⟨k=k',.bool (decide (b≤a)),H,[],[]⟩
 | .str a,.str b=>
  match op with
  | .add=>⟨((a.length+b.length:Nat):Int)≤9223372036854775807,.str (a++b),H,[],[]⟩
  | .eql=>.val H (.bool (a==b))
  | .neq=>.val H (.bool (!(a==b)))
  | .lss=>.val H (.bool (ltS a b))
  | .leq=>.val H (.bool (ltS a b||a==b))
  | .gtr=>.val H (.bool (!(ltS a b||a==b)))
  | .geq=>.val H (.bool (!ltS a b))
  |_=>.bad H
 | .bool a,.bool b=>
  match op,P.underlying t with
  | .eql,some .bool=>.val H (.bool (a==b))
  | .neq,some .bool=>.val H (.bool (!(a==b)))
  |_,_=>.bad H
 |x,y=>XR.ar H (xEq P op t x y H)
def aUn(op:UnOp)(x:V)(H:Hp):AR:=
 match op,x with
 | .neg,.int k n=>.val H (.int k (k.wrap (0-n)))
 | .xor,.int k n=>.val H (.int k (Go.bits .xor k (if k.signed=true then -1 else k.max) n))
 | .not,.bool b=>.val H (.bool (!b))
 |_,_=>.bad H
def zq(c:UInt8):V:=.int .u8 (c.toNat:Int)
def bytesOf:ZA→Option ZL
 |[]=>some []
 | .int .u8 n::r=>(bytesOf r).map (UInt8.ofNat n.toNat::·)
 |_=>none
def zaE(H:Hp)(x:V)(sz:Nat):Option (ZA×Nat×ZN):=
 match x with
 | .nilS=>some ([],0,[])
 | .fs cs n=>if cs.length=n*sz then some (cs,n,[])else none
 | .sl b off n sz' _=>
  match H.get b with
  |some (.cells cs)=>if sz'=sz∧off+n*sz≤cs.length then some ((cs.drop off).take (n*sz),n,[b])else none
  |some (.ty _ cs)=>if sz'=sz∧off+n*sz≤cs.length then some ((cs.drop off).take (n*sz),n,[b])else none
  |some (.ro cs)=>if sz'=sz∧off+n*sz≤cs.length then some ((cs.drop off).take (n*sz),n,[b])else none
  |_=>none
 |_=>none
def zeF(P:Program)(src dst:TypeId)(x:V)(H:Hp):Option XR:=
 match P.underlying src,P.underlying dst,x with
 |some (.pointer u),some .unsafePointer,.ptr b off=>
  match zF P u,H.get b with
  |some (_+1),some (.cells cs)=>if off<cs.length then some ⟨.ptr b off,H,[b],[]⟩else none
  |some (_+1),some (.ty _ cs)=>if off<cs.length then some ⟨.ptr b off,H,[b],[]⟩else none
  |_,_=>none
 |some .unsafePointer,some (.pointer u),.ptr b 0=>
  match zF P u,H.get b with
  |some (k+1),some (.ty t cs)=>if t=u∧k+1≤cs.length then some ⟨.ptr b 0,H,[b],[]⟩else none
  |_,_=>none
 |some (.slice _),some (.slice e),.sl b off n sz kc=>
  match decide (src=dst),P.underlying e,H.get b with
  |true,some (.int .u8),some (.cells cs)=>some ⟨.sl b off n sz kc,H.put b (.ro cs),[b],[b]⟩
  |_,_,_=>none
 |_,_,_=>none
def zcX(P:Program)(src dst:TypeId)(x:V)(H:Hp):AR:=
 match P.underlying src,P.underlying dst,x with
 |some _,some (.int k),.int _ n=>.val H (.int k (k.wrap n))
 |some _,some .string,.str s=>.val H (.str s)
 |some (.slice e),some .string,x=>
  match P.underlying e,zaE H x 1 with
  |some (.int .u8),some (cs,_,R)=>
   match bytesOf cs with
   |some l=>⟨True,.str l,H,R,[]⟩
   |none=>.bad H
  |_,_=>.bad H
 |_,_,x=>XR.ar H (zeF P src dst x H)
def zhJ(P:Program)(t:TypeId)(x:V)(f:Nat)(H:Hp):AR:=
 match P.underlying t,x with
 |some (.struct fs),.agg cs=>
  match fs[f]? with
  |some fd=>
   match aggT P fd.type,zF P fd.type with
   |some g,some n=>⟨zbw g n (cs.drop fd.offset),zek g n (cs.drop fd.offset),H,[],[]⟩
   |_,_=>.bad H
  |none=>.bad H
 |_,_=>.bad H
def zaB(P:Program)(t:TypeId)(x:V)(f:Nat)(H:Hp):AR:=
 match P.underlying t with
 |some (.struct fs)=>
  match fs[f]? with
  |some fd=>
   match zF P fd.type,x with
   |some (_+1),.ptr b off=>.val H (.ptr b (off+fd.offset))
   |some (_+1),.fp cs=>.val H (.fp (cs.drop fd.offset))
   |_,_=>.bad H
  |none=>.bad H
 |_=>.bad H
def zaa(P:Program)(t:TypeId)(x i:V)(H:Hp):AR:=
 match P.underlying t,i with
 |some (.slice e),.int _ n=>
  match zF P e,x with
  |some sz,.sl b off len sz' _=>⟨sz'=sz∧0≤n∧n<len,.ptr b (off+n.toNat*sz),H,[],[]⟩
  |some sz,.fs cs len=>⟨0≤n∧n<len,.fp (cs.drop (n.toNat*sz)),H,[],[]⟩
  |_,_=>.bad H
 |some (.array len e),.int _ n=>
  match zF P e,x with
  |some sz,.ptr b off=>⟨0≤n∧n<len,.ptr b (off+n.toNat*sz),H,[],[]⟩
  |some sz,.fp cs=>⟨0≤n∧n<len,.fp (cs.drop (n.toNat*sz)),H,[],[]⟩
  |_,_=>.bad H
 |_,_=>.bad H
def rdOK(agg:Bool)(n:Nat)(cs:ZA):Bool:=
 match agg with
 |true=> !(Nat.beq n 0)&&Nat.ble n cs.length
 |false=> !cs.isEmpty
def zc1(P:Program)(t:TypeId)(x i:V)(H:Hp):Option XR:=
 match P.underlying t,x,i with
 |some (.array len e),.agg cs,.int _ n=>
  match aggT P e,zF P e with
  |some g,some sz=>
   match decide (0≤n∧n<len)&&rdOK g sz (cs.drop (n.toNat*sz))with
   |true=>some ⟨zek g sz (cs.drop (n.toNat*sz)),H,[],[]⟩
   |false=>none
  |_,_=>none
 |_,_,_=>none
def zb0(P:Program)(t:TypeId)(x i:V)(H:Hp):AR:=
 match P.underlying t,x,i with
 |some .string,.str s,.int _ n=>⟨0≤n∧n<s.length,.int .u8 ((s.getD n.toNat 0).toNat:Int),H,[],[]⟩
 |_,x,i=>XR.ar H (zc1 P t x i H)
def bnd(o:Option V)(d:Int):Option Int:=
 match o with
 |none=>some d
 |some (.int _ n)=>some n
 |_=>none
def zbm(P:Program)(t:TypeId)(x:V)(lo hi mx:Option V)(H:Hp):AR:=
 match P.underlying t,x,mx with
 |some .string,.str s,none=>
  match bnd lo 0,bnd hi s.length with
  |some l,some h=>⟨0≤l∧l≤h∧h≤s.length,.str ((s.take h.toNat).drop l.toNat),H,[],[]⟩
  |_,_=>.bad H
 |some (.slice e),.nilS,none=>
  match zF P e,bnd lo 0,bnd hi 0 with
  |some _,some l,some h=>⟨l=0∧h=0,.nilS,H,[],[]⟩
  |_,_,_=>.bad H
 |some (.slice e),.fs cs len,none=>
  match zF P e,bnd lo 0,bnd hi len with
  |some sz,some l,some h=>⟨0≤l∧l≤h∧h≤len∧cs.length=len*sz,.fs ((cs.take (h.toNat*sz)).drop (l.toNat*sz)) (h.toNat-l.toNat),H,[],[]⟩
  |_,_,_=>.bad H
 |some (.slice e),.sl b off len sz' kc,none=>
  match zF P e,bnd lo 0,bnd hi len with
  |some sz,some l,some h=>⟨sz'=sz∧0≤l∧l≤h∧h≤kc.getD len,.sl b (off+l.toNat*sz) (h.toNat-l.toNat) sz (kc.map (· - l.toNat)),H,[],[]⟩
  |_,_,_=>.bad H
 |some (.slice e),.sl b off len sz' kc,some m=>
  match zF P e,bnd lo 0,bnd hi len,bnd (some m) 0,hi with
  |some sz,some l,some h,some m,some _=>⟨sz'=sz∧0≤l∧l≤h∧h≤m∧m≤kc.getD len,.sl b (off+l.toNat*sz) (h.toNat-l.toNat) sz (some (m.toNat-l.toNat)),H,[],[]⟩
  |_,_,_,_,_=>.bad H
 |some (.array n e),.ptr b off,none=>
  match zF P e,bnd lo 0,bnd hi n,H.get b with
  |some sz,some l,some h,some (.cells cs)=>⟨0≤l∧l≤h∧h≤n∧off+n*sz≤cs.length,.sl b (off+l.toNat*sz) (h.toNat-l.toNat) sz (some (n-l.toNat)),H,[b],[]⟩
  |_,_,_,_=>.bad H
 |_,_,_=>.bad H
def zbn(x:V)(i:Nat)(H:Hp):AR:=
 match x with
 | .tup vs=>match vs[i]? with
  |some v=>.val H v
  |none=>.bad H
 |_=>.bad H
def aLen(P:Program)(t:TypeId)(x:V)(H:Hp):AR:=
 match P.underlying t,x with
 |some .string,.str s=>.val H (.int .i64 s.length)
 |some (.slice _),.nilS=>.val H (.int .i64 0)
 |some (.slice _),.fs _ n=>.val H (.int .i64 n)
 |some (.slice _),.sl _ _ n _ _=>.val H (.int .i64 n)
 |some (.map _ _),.nilM=>.val H (.int .i64 0)
 |some (.map _ _),.map b=>
  match H.get b with
  |some (.mp es _)=>⟨True,.int .i64 es.length,H,[b],[]⟩
  |_=>.bad H
 |_,_=>.bad H
def maxI(a b:Int):Int:=if b>a then b else a
def minI(a b:Int):Int:=if b<a then b else a
def zdd(place:Nat→Option (Nat×Nat))(cells:ZA):List (Nat×V)→Option ZA
 |[]=>some cells
 |(i,v)::rest=>
  match place i with
  |none=>none
  |some (off,size)=>if zt v=true∧v.cellsV.length=size∧off+size≤cells.length then zdd place (putCells cells off v.cellsV) rest else none
def placesOf(P:Program)(fs:List Field):Option (List (Nat×Nat)):=fs.mapM fun f=>(zF P f.type).map fun n=>(f.offset,n)
def zc2(P:Program)(t:TypeId)(parts:List (Nat×V))(H:Hp):Option XR:=
 match P.underlying t with
 |some (.array _ e)=>
  match zaw P t,zF P e with
  |some z,some s=>
   match zt (cv z),zdd (fun i=>some (i*s,s)) (cv z).cellsV parts with
   |true,some cs=>some ⟨.agg cs,H,[],[]⟩
   |_,_=>none
  |_,_=>none
 |_=>none
def zdp(P:Program)(t:TypeId)(parts:List (Nat×V))(H:Hp):AR:=
 match zaw P t,P.underlying t with
 |some z,some (.struct fs)=>
  match placesOf P fs.toList with
  |some pl=>
   match zdd (pl[·]?) (cv z).cellsV parts with
   |some cs=>⟨zt (cv z)=true,.agg cs,H,[],[]⟩
   |none=>.bad H
  |none=>.bad H
 |_,_=>XR.ar H (zc2 P t parts H)
def zbe(P:Program)(e:TypeId)(n:Nat):ZA:=
 match zaw P e with
 |some z=>
  match (cv z).cellsV with
  |[c]=>List.replicate n c
  |l=>(List.replicate n l).flatten
 |none=>[]
def zS(P:Program)(t:TypeId)(len:Nat)(parts:List (Nat×V))(H:Hp):AR:=
 match zdv P t with
 |some e=>
  match zF P e,zaw P e with
  |some s,some z=>
   match zdd (fun i=>some (i*s,s)) (zbe P e len) parts with
   |some cs=>⟨zt (cv z)=true∧(cv z).cellsV.length=s∧len*s≤16777216,.sl H.next 0 len s (some len),H.new (.cells cs),[],[]⟩
   |none=>.bad H
  |_,_=>.bad H
 |none=>.bad H
def zaJ(P:Program)(t:TypeId)(l c:V)(H:Hp):AR:=
 match zdv P t,l,c with
 |some e,.int _ l,.int _ c=>
  match zho P e,zaw P e with
  |some (isz,ib,_),some z=>⟨zt (cv z)=true∧(cv z).cellsV.length=isz∧0≤l∧l≤c∧c≤9223372036854775807∧(ib:Int)*c≤281474976710656,.sl H.next 0 l.toNat isz (some c.toNat),H.new (.cells (zbe P e c.toNat)),[],[]⟩
  |_,_=>.bad H
 |_,_,_=>.bad H
def zau(P:Program)(H:Hp)(xT:TypeId)(x:V)(sz:Nat):Option (ZA×Nat×ZN):=
 match P.underlying xT,x with
 |some .string,.str s=>if sz=1 then some (s.map zq,s.length,[])else none
 |some (.slice _),x=>zaE H x sz
 |_,_=>none
def zhN(P:Program)(e xT:TypeId)(s x:V)(H:Hp):Option XR:=
 match P.underlying xT,s,x with
 |some (.int _),.nilS,.int _ n=>
  match zho P e,zaw P e with
  |some (isz,ib,_),some z=>
   match decide (zt (cv z)=true∧(cv z).cellsV.length=isz∧0<n∧n≤1000000∧ib≤100000)with
   |true=>some ⟨.sl H.next 0 n.toNat isz none,H.new (.cells (zbe P e n.toNat)),[],[]⟩
   |false=>none
  |_,_=>none
 |_,_,_=>none
def zdl(P:Program)(sT xT:TypeId)(s x:V)(H:Hp):AR:=
 match zdv P sT with
 |some e=>
  match zho P e with
  |some (isz,ib,zok)=>
   match zau P H xT x isz with
   |some (news,n,R)=>
    if n=0 then(match s with| .nilS| .sl .. | .fs .. =>⟨True,s,H,R,[]⟩|_=>.bad H)else
    match s with
    | .nilS=>⟨isz≠0∧zok=true∧n*ib≤140737488355328∧n≤4611686018427387904∧news.all V.one=true,.sl H.next 0 n isz none,H.new (rowB (rowT P e) e news),R,[]⟩
    | .sl b off len sz kc=>
     match H.get b with
     |some (.cells cs)=>
      match kc with
      |none=>⟨sz=isz∧isz≠0∧zok=true∧off+len*sz≤cs.length∧(len+n)*ib≤140737488355328∧len+n≤4611686018427387904∧news.all V.one=true,
       .sl H.next 0 (len+n) sz none,(H.kill b).new (.cells ((cs.drop off).take (len*sz)++news)),b::R,[b]⟩
      |some k=>
       if len+n≤k then
        ⟨sz=isz∧off+(len+n)*sz≤cs.length∧news.all V.one=true,.sl b off (len+n) sz (some k),H.put b (.cells (cs.take (off+len*sz)++news++cs.drop (off+len*sz+news.length))),b::R,[b]⟩
       else
        ⟨sz=isz∧isz≠0∧zok=true∧off+len*sz≤cs.length∧(len+n)*ib≤140737488355328∧len+n≤4611686018427387904∧news.all V.one=true,
         .sl H.next 0 (len+n) sz none,H.new (rowB (rowT P e) e ((cs.drop off).take (len*sz)++news)),b::R,[]⟩
     |some (.ty t cs)=>
      match kc with
      |none=>⟨sz=isz∧isz=1∧zok=true∧off+len*sz≤cs.length∧(len+n)*ib≤140737488355328∧len+n≤4611686018427387904∧news.all V.one=true∧t=e∧off=0,
       .sl H.next 0 (len+n) sz none,(H.kill b).new (.ty t ((cs.drop off).take (len*sz)++news)),b::R,[b]⟩
      |some _=>.bad H
     |some (.ro cs)=>
      match kc with
      |none=>.bad H
      |some k=>
       if len+n≤k then .bad H
       else
        ⟨sz=isz∧isz≠0∧zok=true∧off+len*sz≤cs.length∧(len+n)*ib≤140737488355328∧len+n≤4611686018427387904∧news.all V.one=true,
         .sl H.next 0 (len+n) sz none,H.new (rowB (rowT P e) e ((cs.drop off).take (len*sz)++news)),b::R,[]⟩
     |_=>.bad H
    |_=>.bad H
   |none=>XR.ar H (zhN P e xT s x H)
  |none=>.bad H
 |none=>.bad H
def zi6(P:Program)(dT xT:TypeId)(d x:V)(H:Hp):Option XR:=
 match zdv P dT with
 |some e=>
  match zF P e with
  |some sz=>
   match zau P H xT x sz,d with
   |some (_,_,R),.nilS=>some ⟨.int .i64 (0:Nat),H,R,[]⟩
   |some (news,n,R),.sl b off len sz' _=>
    match Nat.beq (min n len) 0 with
    |true=>some ⟨.int .i64 (0:Nat),H,R,[]⟩
    |false=>
     match H.get b with
     |some (.cells cs)=>
      match decide (sz'=sz∧(news.take (min n len*sz)).all V.one=true∧off+min n len*sz≤cs.length)with
      |true=>some ⟨.int .i64 (min n len:Nat),H.put b (.cells (putCells cs off (news.take (min n len*sz)))),b::R,[b]⟩
      |false=>none
     |_=>none
   |_,_=>none
  |_=>none
 |none=>none
def zeG(P:Program)(t:TypeId)(x:V)(H:Hp):Option XR:=
 match zdv P t with
 |some e=>
  match zF P e,zaw P e with
  |some sz,some z=>
   match x with
   | .nilS=>some ⟨undefV,H,[],[]⟩
   | .sl b off len sz' _=>
    match Nat.beq len 0 with
    |true=>some ⟨undefV,H,[],[]⟩
    |false=>
     match H.get b with
     |some (.cells cs)=>
      match decide (sz'=sz∧zt (cv z)=true∧(cv z).cellsV.length=sz∧(zbe P e len).all V.one=true∧off+len*sz≤cs.length)with
      |true=>some ⟨undefV,H.put b (.cells (putCells cs off (zbe P e len))),[b],[b]⟩
      |false=>none
     |_=>none
   |_=>none
  |_,_=>none
 |none=>none
def zes(k:V):List (Nat×V×V)→Nat→Option (Option (Nat×V))
 |[],_=>some none
 |e::r,i=>
  match zvY k e.2.1 with
  |some true=>some (some (i,e.2.2))
  |some false=>zes k r (i+1)
  |none=>none
def mapT(P:Program)(t:TypeId):Option (TypeId×TypeId):=
 match P.underlying t with
 |some (.map k e)=>some (k,e)
 |_=>none
def updE:Nat→V→V→List (Nat×V×V)→List (Nat×V×V)
 |_,_,_,[]=>[]
 |0,k,x,e::r=>(e.1,k,x)::r
 |i+1,k,x,e::r=>e::updE i k x r
def lkV(ok:Bool)(v:V)(b:Bool):V:=match ok with|true=>.tup [v,.bool b]|false=>v
def zdW(H:Hp):Option XR:=some ⟨.map H.next,H.new (.mp [] 0),[],[]⟩
def zbu(P:Program)(t:TypeId)(x k:V)(ok:Bool)(H:Hp):Option XR:=
 match mapT P t with
 |some (kt,et)=>
  match keyT P kt k,zaw P et with
  |true,some z=>
   match x with
   | .nilM=>some ⟨lkV ok (cv z) false,H,[],[]⟩
   | .map b=>
    match H.get b with
    |some (.mp es _)=>
     match zes k es 0 with
     |some (some p)=>some ⟨lkV ok p.2 true,H,[b],[]⟩
     |some none=>some ⟨lkV ok (cv z) false,H,[b],[]⟩
     |none=>none
    |_=>none
   |_=>none
  |_,_=>none
 |none=>none
def zaq(P:Program)(t:TypeId)(m k x:V)(H:Hp):Option XR:=
 match mapT P t,m with
 |some (kt,_),.map b=>
  match keyT P kt k,H.get b with
  |true,some (.mp es clock)=>
   match zes k es 0 with
   |some (some p)=>some ⟨undefV,H.put b (.mp (updE p.1 k x es) clock),[b],[b]⟩
   |some none=>some ⟨undefV,H.put b (.mp (es++[(clock,k,x)]) (clock+1)),[b],[b]⟩
   |none=>none
  |_,_=>none
 |_,_=>none
def zx2(es:List (Nat×V×V))(i:Nat):Nat:=match es[i]? with|some e=>e.1|none=>0
def zbt(P:Program)(t:TypeId)(m k:V)(H:Hp):Option XR:=
 match mapT P t,m with
 |some (kt,et),.map b=>
  match keyT P kt k,H.get b,zaw P et with
  |true,some (.mp es clock),some z=>
   match zes k es 0 with
   |some (some p)=>some ⟨.tup [p.2,.int .i64 (zx2 es p.1:Nat)],H.put b (.mp (updE p.1 k p.2 es) clock),[b],[b]⟩
   |some none=>some ⟨.tup [cv z,.int .i64 (clock:Nat)],H.put b (.mp (es++[(clock,k,cv z)]) (clock+1)),[b],[b]⟩
   |none=>none
  |_,_,_=>none
 |_,_=>none
def zjw(s:Int)(x:V):List (Nat×V×V)→Option (List (Nat×V×V))
 |[]=>none
 |e::r=>match decide ((e.1:Int)=s)with
  |true=>some ((e.1,e.2.1,x)::r)
  |false=>match zjw s x r with|some l=>some (e::l)|none=>none
def zaK(m s x:V)(H:Hp):Option XR:=
 match m,s with
 | .map b,.int _ n=>
  match H.get b with
  |some (.mp es clock)=>
   match zjw n x es with
   |some es'=>some ⟨undefV,H.put b (.mp es' clock),[b],[b]⟩
   |none=>none
  |_=>none
 |_,_=>none
def zbj(P:Program)(t:TypeId)(x:V)(H:Hp):Option XR:=
 match mapT P t,x with
 |some _,.int _ _=>zdW H
 |_,_=>none
def zdm(P:Program)(t:TypeId)(x:V)(H:Hp):Option XR:=
 match mapT P t,x with
 |some _,.nilM=>some ⟨.ptr H.next 0,H.new (.it none [] [] 0 0 none),[],[]⟩
 |some _,.map b=>
  match H.get b with
  |some (.mp es clock)=>some ⟨.ptr H.next 0,H.new (.it (some b) (es.map (·.1)) (es.map (·.1)) clock clock none),[b],[]⟩
  |_=>none
 |none,.str s=>
  match P.underlying t with
  |some .string=>some ⟨.ptr H.next 0,H.new (.si s 0),[],[]⟩
  |_=>none
 |_,_=>none
def dec8(s:ZL)(pos:Nat):Nat×Nat:=Utf8.decode ⟨s.toArray⟩ pos
def zea(x:V)(H:Hp):Option XR:=
 match x with
 | .ptr b 0=>
  match H.get b with
  |some (.si s pos)=>if pos<s.length then some ⟨.tup [.bool true,.int .i64 pos,.int .i32 (dec8 s pos).1],H.put b (.si s (pos+(dec8 s pos).2)),[b],[b]⟩else some ⟨.tup [.bool false],H,[b],[]⟩
  |_=>none
 |_=>none
def zqJ(x:V)(H:Hp):Option (List XR):=
 match x with
 | .ptr b 0=>
  match H.get b with
  |some (.it none _ _ _ _ _)=>some [⟨.tup [.bool false],H.kill b,[b],[b]⟩]
  |some (.it (some m) bs left since last _)=>
   match H.get m with
   |some (.mp es clock)=>
    match decide (es.map (·.1)=bs∧since≤last)&&bs.all fun n=>Nat.blt n since with
    |true=>
     match es.filter fun e=>left.contains e.1 with
     |[]=>some [⟨.tup [.bool false],H.kill b,[b,m],[b]⟩]
     |e::l=>some ((e::l).map fun e=>⟨.tup [.bool true,e.2.1,e.2.2],H.put b (.it (some m) bs (left.filter fun n=> !Nat.beq n e.1) since clock (some e.1)),[b,m],[b]⟩)
    |false=>none
   |_=>none
  |_=>none
 |_=>none
def ze2(n:Nat):List (Nat×V×V)→Option (V×V)
 |[]=>none
 |e::r=>match Nat.beq e.1 n with|true=>some e.2|false=>ze2 n r
def zeE(x:V)(H:Hp):Option XR:=
 match x with
 | .ptr b 0=>
  match H.get b with
  |some (.it (some m) _ _ _ last (some c))=>
   match H.get m with
   |some (.mp es clock)=>
    match Nat.beq clock last,ze2 c es with
    |true,some kv=>some ⟨.tup [kv.1,kv.2],H,[b,m],[]⟩
    |_,_=>none
   |_=>none
  |_=>none
 |_=>none
def xCap(P:Program)(t:TypeId)(x:V)(H:Hp):Option XR:=
 match P.underlying t,x with
 |some (.slice _),.nilS=>some ⟨.int .i64 0,H,[],[]⟩
 |some (.slice _),.sl _ _ _ _ (some k)=>some ⟨.int .i64 (k:Nat),H,[],[]⟩
 |_,_=>none
def zaR(x:V)(H:Hp):Option XR:=
 match x with
 | .nilS=>some ⟨.nilP,H,[],[]⟩
 | .sl b off (_+1) _ _=>some ⟨.ptr b off,H,[],[]⟩
 |_=>none
def isByte:V→Bool
 | .int .u8 n=>decide (0≤n)&&decide (n<256)
 |_=>false
def zb2(P:Program)(pt:TypeId)(x n:V)(H:Hp):Option XR:=
 match n with
 | .int .i64 n=>
  match decide (n=0)with
  |true=>(match x with
   | .nilP=>some ⟨.str [],H,[],[]⟩
   | .ptr .. =>some ⟨.str [],H,[],[]⟩
   |_=>none)
  |false=>
   match x,P.underlying pt with
   | .ptr b 0,some (.pointer e)=>
    match H.get b with
    |some (.ty t cs)=>
     match decide (t=e∧zF P e=some 1∧0<n∧n≤cs.length∧n≤9223372036854775807∧(cs.take n.toNat).all isByte=true),bytesOf (cs.take n.toNat)with
     |true,some l=>some ⟨.str l,H.kill b,[b],[b]⟩
     |_,_=>none
    |_=>none
   |_,_=>none
 |_=>none
end Go.Ab
