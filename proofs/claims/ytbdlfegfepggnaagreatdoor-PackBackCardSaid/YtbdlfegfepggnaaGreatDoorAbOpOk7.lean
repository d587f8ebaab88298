/- The operations' soundness, seventh part: copy, clear. -/
import Derived.Test.YtbdlfegfepggnaaGreatDoorAbOpOk6
set_option linter.all false
set_option maxHeartbeats 16000000
set_option maxRecDepth 100000
noncomputable section
namespace Go.Ab
section
variable {P:Program}{g:G}{base:Nat}{H:Hp}{D:Nat→Prop}{w:World}
def zgp(h:Inv g base H D w){b off:Nat}{cs news:ZA}{T:Tgt}{na:Array Value}(hDb:D b)(hg:H.get b=some (.cells cs))(hm:g.mu b=some T)(hsz:na.size=news.length) (hp:PW g news (fun i=>na[i]?)) (hones:news.all V.one=true) (hb:off+news.length≤cs.length):∃w',(storeCells ⟨T.c,T.sh+off,none⟩ na.toList).run P w=.ok () w'∧Post g g base H (H.put b (.cells (putCells cs off news))) D [b] w w':=by
 obtain⟨T1,o,m1,p1,h1,r1⟩:=h.cont b _ hDb hg;obtain rfl:=ZT hm m1;cases r1 with
 |cells hs hbd hcs=>
  rename_i arr ty;obtain⟨w',arr',hr,hh,hs',hk,honly⟩:=zbk (P:=P) (c:=T1.c) (o:=T1.sh+off) na.toList 0 w arr h1 (hp.ones hsz hones) (by simp[hsz];omega);refine⟨w',hr,Post.put h hDb hg hm hh honly.other honly.size honly.os honly.tape honly.output ?_⟩;refine .cells (hs'.trans hs) (by rw[zbV hb];exact hbd) ?_;refine PW.put hcs (vs:=na.toList) (by simpa using hp) (by simpa using hsz) hb fun k=>?_;show arr'[T1.sh+k]? =_;rw[hk];simp only[YS,YX,hsz];by_cases hc:off≤k∧k<off+news.length
  ·rw[Yi Zo,Yi hc];congr 1;omega
  rw[Ye Zo,Ye hc]
def zej(h:Inv g base H D w){xT:TypeId}{x:V}{xc:Value}{sz n m:Nat}{cs:ZA}{R:ZN}(hx:VRel g x xc)(hs:zau P H xT x sz=some (cs,n,R))(hD:∀b∈R,D b)(hm:m≤n):∃arr:Array Value,arr.size=m*sz∧PW g (cs.take (m*sz)) (fun i=>arr[i]?)∧(Builtin.firstCells sz m xc).run P w=.ok arr w:=by
 unfold zau at hs;split at hs
 ·rename_i s hu;split at hs
  ·rename_i h1;subst h1;cases hs;obtain⟨sb,rfl,rfl⟩:=hx.inv_str;refine⟨(sb.extract 0 m).data.map fun b=>.int .u8 b.toNat,?_,?_,rfl⟩
   ·rw[Array.size_map,←YX,zcn];simp;have hm':m≤sb.size:=by simpa using hm
    omega
   intro i y hy;rw[Yas,←List.map_take,YT]at hy;cases e:(sb.data.toList.take m)[i]? with
   |none=>rw[e]at hy;cases hy
   |some c=>rw[e]at hy;cases hy;refine⟨.int .u8 c.toNat,?_,.int _ _⟩;show ((sb.extract 0 m).data.map fun b=>Value.int .u8 b.toNat)[i]? =_;rw[Yby,←YF,zcn,YW,e];rfl
  cases hs
 ·rename_i e hu;have hms:m*sz≤n*sz:=YI _ hm;obtain⟨hl,hc⟩:=zbb h hx hs hD;rcases hc with⟨rfl,rfl⟩|⟨a,cap,rfl,hc⟩
  ·obtain rfl:m=0:=Zo;exact⟨#[],Zs,by rw[Ybo,YbS];exact PW.nil,rfl⟩
  have hz:m*sz=0→∃arr:Array Value,arr.size=m*sz∧PW g (cs.take (m*sz)) (fun i=>arr[i]?)∧(Builtin.firstCells sz m (.slice (some a) n cap)).run P w=.ok arr w:=fun e0=>
   ⟨#[],by simp[e0],by rw[e0,YbS];exact PW.nil,by simp[Builtin.firstCells,e0,loadCells,loadCellsFrom]⟩
  rcases hc with⟨rfl,e⟩|⟨e0,e⟩|⟨c,o,arr,t,fr,rfl,hh,hpw,hb⟩
  ·obtain rfl:m=0:=Zo;exact hz Zs
  ·exact hz Zo
  refine⟨arr.extract o (o+m*sz),by simp;omega,(hpw.take (m*sz)).extract (by rw[Y0,hl];omega),?_⟩;simp only[Builtin.firstCells];exact zak hh Zo
 cases hs
def xCopy_ok(h:Inv g base H D w){dT xT ty:TypeId}{d x:V}{dc xc:Value}(hd:VRel g d dc)(hx:VRel g x xc)(hp:(XR.ar H (zi6 P dT xT d x H)).pre)(hD:∀b∈(XR.ar H (zi6 P dT xT d x H)).R,D b):Snd P g base H D w (XR.ar H (zi6 P dT xT d x H)) (Builtin.copy_ #[dT,xT] ty #[dc,xc]):=by
 cases hq:zi6 P dT xT d x H with
 |none=>rw[hq]at hp;exact hp.elim
 |some q=>
  rw[hq]at hD;clear hp;unfold zi6 at hq;split at hq;rotate_left;·cases hq
  rename_i e he;have ht:=zde he;split at hq;rotate_left;·cases hq
  rename_i sz hsz;split at hq
  ·rename_i news n R hsrc;cases hq;cases hd;have hDR:∀b∈R,D b:=fun b hb=>hD b hb;obtain⟨_,_,hlen,_⟩:=zbH h hx hsrc hDR;obtain⟨arr,_,_,hrun⟩:=zej h hx hsrc hDR (Yk n);refine Snd.val h _ ?_ (.int _ _);simp[Builtin.copy_,run_underlying ht,hlen,zah hsz,hrun,goInt]
  ·rename_i news n R b off len sz' kc hsrc;obtain⟨T,o,cap,hm,hl,ho,hk,rfl⟩:=hd.inv_sl;split at hq
   ·rename_i h0;rw[Ycl]at h0;cases hq;have hDR:∀b∈R,D b:=fun b hb=>hD b hb;obtain⟨_,_,hlen,_⟩:=zbH h hx hsrc hDR;obtain⟨arr,hs0,_,hrun⟩:=zej h hx hsrc hDR (Yk n);have:arr=#[]:=Ybw (by simpa using hs0);subst this;have h0':Nat.min n len=0:=h0;refine Snd.val h _ ?_ (.int _ _);simp[Builtin.copy_,run_underlying ht,hlen,zah hsz,hrun,goInt,h0',storeCells]
   rename_i h0;have h0:min n len≠0:=fun e=>by rw[e]at h0;cases h0
   split at hq;rotate_left;·cases hq
   rename_i cs hg;split at hq;rotate_left;·cases hq
   rename_i hc;cases hq;obtain⟨rfl,hones,hb⟩:=Yah hc;have hDR:∀b∈R,D b:=fun b' hb=>hD b' (Yaa _ hb);have hDb:D b:=hD b (YK ..);obtain⟨hcl,_,hlen,_⟩:=zbH h hx hsrc hDR;obtain⟨arr,hs1,hpw,hrun⟩:=zej (m:=min n len) h hx hsrc hDR (Nat.min_le_left _ _);have hnl:(news.take (min n len*sz')).length=min n len*sz':=by rw[Y0,hcl];exact YaZ (YI _ (Nat.min_le_left _ _))
   obtain⟨e1,_⟩:=ho Zo;obtain⟨w',hr,hpost⟩:=zgp (P:=P) (off:=off) (na:=arr) h hDb hg hm (by rw[hs1,hnl]) hpw hones (by rw[hnl];exact hb);have hmin:Nat.min n len=min n len:=rfl;refine⟨g,w',.int .i64 (min n len:Nat),?_,.int _ _,hpost⟩;subst e1;simp[Builtin.copy_,run_underlying ht,hlen,zah hsz,hmin,hrun,hr,goInt]
  cases hq
def zty(h:Inv g base H D w){t ty:TypeId}{ts:Array TypeId}(htt:ts[0]? =some t){x:V}{xc:Value}(hx:VRel g x xc)(hp:(XR.ar H (zeG P t x H)).pre)(hD:∀b∈(XR.ar H (zeG P t x H)).R,D b):Snd P g base H D w (XR.ar H (zeG P t x H)) (Builtin.clear_ ts ty #[xc]):=by
 cases hq:zeG P t x H with
 |none=>rw[hq]at hp;exact hp.elim
 |some q=>
  rw[hq]at hD;clear hp;unfold zeG at hq;split at hq;rotate_left;·cases hq
  rename_i e he;have ht:=zde he;split at hq;rotate_left;·cases hq
  rename_i sz z hsz hz;split at hq
  ·cases hq;cases hx;refine Snd.val h _ (v:=.tuple #[]) ?_ (Xf rfl PW.nil);simp[Builtin.clear_,htt,run_underlying ht]
  ·rename_i b off len sz' kc;obtain⟨T,o,cap,hm,hl,ho,hk,rfl⟩:=hx.inv_sl;split at hq
   ·rename_i h0;rw[Ycl]at h0;subst h0;cases hq;refine Snd.val h _ (v:=.tuple #[]) ?_ (Xf rfl PW.nil);simp[Builtin.clear_,htt,run_underlying ht]
   rename_i h0;have h0:len≠0:=fun e=>by rw[e]at h0;cases h0
   split at hq;rotate_left;·cases hq
   rename_i cs hg;split at hq;rotate_left;·cases hq
   rename_i hc;cases hq;obtain⟨rfl,hok,hzl,hones,hb⟩:=Yah hc;have hDb:D b:=hD b (YK ..);obtain⟨zl,zp⟩:=zf1 (g:=g) (n:=len) hz hsz hok hzl;obtain⟨zs,_,_⟩:=zai (zdn g z) hok;have hzc:Builtin.zeroCells z.cells len=madeCells z.cells (len*sz'):=by unfold Builtin.zeroCells madeCells;rw[zs,hzl]
   obtain⟨e1,_⟩:=ho Zo;obtain⟨w',hr,hpost⟩:=zgp (P:=P) (off:=off) (na:=Builtin.zeroCells z.cells len) h hDb hg hm (by rw[hzc,size_madeCells,zl]) (by rw[hzc];exact zp) hones (by rw[zl];exact hb);refine⟨g,w',.tuple #[],?_,Xf rfl PW.nil,hpost⟩;subst e1;obtain⟨k,rfl⟩:∃k,len=k+1:=⟨len-1,Zo⟩;simp[Builtin.clear_,htt,run_underlying ht,za5 hz,hr]
  cases hq
end
end Go.Ab

namespace Go.Ab
def zbM(P:Program)(t:TypeId)(x:V)(H:Hp):AR:=
 match P.underlying t with
 |some (.interface _)=>.bad H
 |some _=>.val H (.ifc t x)
 |none=>.bad H
def zl2(P:Program)(t:TypeId):Bool:=
 match P.underlying t with
 |some (.interface _)=>true
 |_=>false
def zeB(P:Program)(x:V)(asserted:TypeId)(ok:Bool)(H:Hp):AR:=
 match P.underlying asserted,zaw P asserted,x with
 |some _,some z,.ifc t v=>
  if zl2 P asserted=true then .bad H else
  if t=asserted then .val H (if ok then .tup [v,.bool true]else v)else
  if ok then .val H (.tup [cv z,.bool false])else .bad H
 |some _,some z,.nilI=>
  if zl2 P asserted=true then .bad H else if ok then .val H (.tup [cv z,.bool false])else .bad H
 |_,_,_=>.bad H
def zyI(c a b:V)(H:Hp):AR:=
 match c with
 | .bool t=>.val H (if t then a else b)
 |_=>.bad H
def aMax(x y:V)(mx:Bool)(H:Hp):AR:=
 match x,y with
 | .int k a,.int _ b=>.val H (.int k (if mx then maxI a b else minI a b))
 |_,_=>.bad H
def zmU(x y z:V)(H:Hp):AR:=
 match x,y,z with
 | .int k a,.int _ b,.int _ c=>.val H (.int k (maxI (maxI a b) c))
 |_,_,_=>.bad H
def zcr(P:Program)(b:Builtin)(ts:Array TypeId)(args:ZA)(H:Hp):AR:=
 match b,args with
 | .len,[x]=>match ts[0]? with|some t=>aLen P t x H|none=>.bad H
 | .append,[s,x]=>match ts.toList with|[sT,xT]=>zdl P sT xT s x H|_=>.bad H
 | .max,[x,y]=>aMax x y true H
 | .min,[x,y]=>aMax x y false H
 | .cap,[x]=>match ts[0]? with|some t=>XR.ar H (xCap P t x H)|none=>.bad H
 | .copy,[d,x]=>match ts.toList with|[dT,xT]=>XR.ar H (zi6 P dT xT d x H)|_=>.bad H
 | .clear,[x]=>match ts[0]? with|some t=>XR.ar H (zeG P t x H)|none=>.bad H
 | .unsafeSliceData,[x]=>XR.ar H (zaR x H)
 | .unsafeString,[x,n]=>match ts.toList with|[pt,_]=>XR.ar H (zb2 P pt x n H)|_=>.bad H
 | .max,[x,y,z]=>zmU x y z H
 |_,_=>.bad H
def aop(P:Program)(ρ:Operand→V)(o:Op)(H:Hp):AR:=
 match o with
 | .move x| .assign x=>.val H (ρ x)
 | .pick c a b=>zyI (ρ c) (ρ a) (ρ b) H
 | .alloc t=>zfS P t H
 | .box _ x=>aBox (ρ x) H
 | .build t ps=>zdp P t (ps.toList.map fun p=>(p.1,ρ p.2)) H
 | .buildSlice t n ps=>zS P t n (ps.toList.map fun p=>(p.1,ρ p.2)) H
 | .load t a=>zcW P t (ρ a) H
 | .store t a x=>zef P t (ρ a) (ρ x) H
 | .nilCheck x=>aNil (ρ x) H
 | .binOp op t x y _=>aBin P op t (ρ x) (ρ y) H
 | .unOp op _ x=>aUn op (ρ x) H
 | .convert s d x=>zcX P s d (ρ x) H
 | .makeInterface t x=>zbM P t (ρ x) H
 | .typeAssert x _ t ok=>zeB P (ρ x) t ok H
 | .makeFunc (.func f) first caps=>if first.size=0 then .val H (.fn f (caps.toList.map ρ))else if caps.size=0 then .val H (.bnd f (first.toList.map ρ))else .bad H
 | .makeSlice t l c=>zaJ P t (ρ l) (ρ c) H
 | .slice t x lo hi mx=>zbm P t (ρ x) (lo.map ρ) (hi.map ρ) (mx.map ρ) H
 | .fieldAddr t x f=>zaB P t (ρ x) f H
 | .field t x f=>zhJ P t (ρ x) f H
 | .indexAddr t x i=>zaa P t (ρ x) (ρ i) H
 | .index t x i=>zb0 P t (ρ x) (ρ i) H
 | .extract x i=>zbn (ρ x) i H
 | .call { callee:=.builtin b,args,argTypes }=>zcr P b argTypes (args.toList.map ρ) H
 | .makeMap _ none=>XR.ar H (zdW H)
 | .makeMap t (some x)=>XR.ar H (zbj P t (ρ x) H)
 | .lookup t x k ok=>XR.ar H (zbu P t (ρ x) (ρ k) ok H)
 | .mapUpdate t m k x| .insert t m k x=>XR.ar H (zaq P t (ρ m) (ρ k) (ρ x) H)
 | .mapEntry t m k=>XR.ar H (zbt P t (ρ m) (ρ k) H)
 | .entryStore _ m n x=>XR.ar H (zaK (ρ m) (ρ n) (ρ x) H)
 | .range t x=>XR.ar H (zdm P t (ρ x) H)
 | .entry x=>XR.ar H (zeE (ρ x) H)
 | .next x true=>XR.ar H (zea (ρ x) H)
 |_=>.bad H
section
variable {P:Program}{g:G}{base:Nat}{H:Hp}{D:Nat→Prop}{w:World}
def SndN(P:Program)(g:G)(base:Nat)(H:Hp)(D:Nat→Prop)(w:World)(r:AR)(s:Sem Next):Prop:=
 ∃g' w' vc n,s.run P w=.ok n w'∧(n=.value vc∨(n=.skip∧vc=undef))∧VRel g' r.v vc∧Post g g' base H r.h D r.W w w'
def Snd.next {r:AR}{s:Sem Value}(h:Snd P g base H D w r s):SndN P g base H D w r (do pure (.value (←s))):=by obtain⟨g',w',vc,h1,h2,h3⟩:=h;exact⟨g',w',vc,.value vc,by simp[h1],.inl rfl,h2,h3⟩
def SndU.next {r:AR}{s:Sem Unit}(h:SndU P g base H D w r s):SndN P g base H D w r (do s;pure .skip):=by obtain⟨hv,g',w',h1,h3⟩:=h;exact⟨g',w',undef,.skip,by simp[h1],.inr ⟨rfl,rfl⟩,by rw[hv];exact Xf rfl PW.nil,h3⟩
def zg0 {ρ:Operand→V}{ρc:Operand→Value}(hρ:∀x,VRel g (ρ x) (ρc x)):∀(l:List (Nat×Operand)),Parts g (l.map fun p=>(p.1,ρ p.2)) (l.map fun p=>(p.1,ρc p.2))
 |[]=>.nil
 |(_,x)::l=>.cons (hρ x) (zg0 hρ l)
def zj5 {ρ:Operand→V}{ρc:Operand→Value}(hρ:∀x,VRel g (ρ x) (ρc x))(xs:Array Operand):PW g (xs.toList.map ρ) (fun i=>(xs.map ρc)[i]?):=by
 intro i v hv;rw[YT]at hv;cases e:xs.toList[i]? with
 |none=>rw[e]at hv;cases hv
 |some x=>rw[e]at hv;cases hv;exact⟨ρc x,by show (xs.map ρc)[i]? =_;rw[Yby,←YF,e];rfl,hρ x⟩
def zjO {ρ:Operand→V}{ρc:Operand→Value}(hρ:∀x,VRel g (ρ x) (ρc x))(o:Option Operand):ORel g (o.map ρ) (o.map ρc):=by
 cases o with
 |none=>trivial
 |some x=>exact hρ x
def aPick_ok(h:Inv g base H D w){c a b:V}{cc ac bc:Value}(hc:VRel g c cc)(ha:VRel g a ac)(hb:VRel g b bc)(hp:(zyI c a b H).pre):SndN P g base H D w (zyI c a b H) (do pure (.value (if ←asBool cc then ac else bc))):=by
 cases hc<;>first|exact hp.elim|skip
 rename_i t;refine⟨g,w,if t then ac else bc,_,rfl,.inl ?_,?_,Post.refl h rfl rfl ⟨rfl,Yc _⟩ rfl⟩
 ·cases t<;>rfl
 cases t<;>simp[zyI,AR.val,ha,hb]
def zkL(h:Inv g base H D w){t:TypeId}{x:V}{xc:Value}(hx:VRel g x xc)(hp:(zbM P t x H).pre):Snd P g base H D w (zbM P t x H) (Instr.makeInterface t xc):=by
 unfold zbM at*;split at hp
 ·exact hp.elim
 ·rename_i d hne hu;refine Snd.val h _ (v:=.iface t xc) ?_ (.ifc hx);simp only[Instr.makeInterface,Sem.run_bind,run_underlying hu,Result.andThen_ok];cases d<;>first|rfl|exact absurd rfl (hne _)
 exact hp.elim
def ztj(h:Inv g base H D w){xT t:TypeId}{ok:Bool}{x:V}{xc:Value}(hx:VRel g x xc)(hp:(zeB P x t ok H).pre):Snd P g base H D w (zeB P x t ok H) (Instr.typeAssert xc xT t ok):=by
 unfold zeB at*;have zr:∀ {z:Value},VRel g (.tup [cv z,.bool false]) (.tuple #[z,.bool false]):=by
  intro z;refine Xf rfl fun i y hy=>?_;match i,hy with
  |0,hy=>cases hy;exact⟨_,rfl,zdn g z⟩
  |1,hy=>cases hy;exact⟨_,rfl,.bool _⟩
 split at hp
 ·rename_i d z u v hu hz;by_cases hi:zl2 P t=true
  ·rw[Yi hi]at hp;exact hp.elim
  rw[Ye hi]at hp ⊢;cases hx with
  |ifc hv=>
   rename_i vc;have hni:∀ms,d≠.interface ms:=fun ms e=>hi (by simp[zl2,hu,e]);by_cases ht:u=t
   ·rw[Yi ht]at hp ⊢;subst ht;refine Snd.val h _ (v:=if ok then .tuple #[vc,.bool true]else vc) ?_ ?_
    ·simp only[Instr.typeAssert,Sem.run_bind,run_underlying hu,Result.andThen_ok];cases d<;>first|exact absurd rfl (hni _)|simp
    cases ok
    ·simpa using hv
    refine Xf rfl fun i y hy=>?_;match i,hy with
    |0,hy=>cases hy;exact⟨_,rfl,hv⟩
    |1,hy=>cases hy;exact⟨_,rfl,.bool _⟩
   rw[Ye ht]at hp ⊢;cases ok with
   |false=>exact hp.elim
   |true=>
    refine Snd.val h _ (v:=.tuple #[z,.bool false]) ?_ zr;simp only[Instr.typeAssert,Sem.run_bind,run_underlying hu,Result.andThen_ok];cases d<;>first|exact absurd rfl (hni _)|simp[ht,za5 hz]
 ·rename_i d z hu hz;by_cases hi:zl2 P t=true
  ·rw[Yi hi]at hp;exact hp.elim
  rw[Ye hi]at hp ⊢;cases hx;have hni:∀ms,d≠.interface ms:=fun ms e=>hi (by simp[zl2,hu,e]);cases ok with
  |false=>exact hp.elim
  |true=>
   refine Snd.val h _ (v:=.tuple #[z,.bool false]) ?_ zr;simp only[Instr.typeAssert,Sem.run_bind,run_underlying hu,Result.andThen_ok];cases d<;>first|exact absurd rfl (hni _)|simp[za5 hz]
 exact hp.elim
def zyJ(h:Inv g base H D w){ts:Array TypeId}{ty:TypeId}{x y:V}{xc yc:Value}(hx:VRel g x xc)(hy:VRel g y yc):((aMax x y true H).pre→Snd P g base H D w (aMax x y true H) (Builtin.max_ ts ty #[xc,yc]))∧((aMax x y false H).pre→Snd P g base H D w (aMax x y false H) (Builtin.min_ ts ty #[xc,yc])):=by
 constructor<;>intro hp
 ·cases hx<;>cases hy<;>first|exact hp.elim|skip
  refine Snd.val h _ (v:=.int _ (maxI _ _)) ?_ (.int _ _);simp[Builtin.max_,Builtin.max2,maxI]
 cases hx<;>cases hy<;>first|exact hp.elim|skip
 refine Snd.val h _ (v:=.int _ (minI _ _)) ?_ (.int _ _);simp[Builtin.min_,Builtin.min2,minI]
def aMax3_ok(h:Inv g base H D w){ts:Array TypeId}{ty:TypeId}{x y z:V}{xc yc zc:Value}(hx:VRel g x xc)(hy:VRel g y yc)(hz:VRel g z zc)(hp:(zmU x y z H).pre):Snd P g base H D w (zmU x y z H) (Builtin.max_ ts ty #[xc,yc,zc]):=by
 unfold zmU at hp ⊢;split at hp
 ·rename_i k a k' b k3 c;obtain rfl:=hx.inv_int;obtain rfl:=hy.inv_int;obtain rfl:=hz.inv_int;refine Snd.val h _ (v:=.int k (maxI (maxI a b) c)) ?_ (.int _ _);simp[Builtin.max_,Builtin.max2,maxI]
 exact hp.elim
def zoR(h:Inv g base H D w){b:Builtin}{ts:Array TypeId}{ty:TypeId}{consts:Array Bool}{args:ZA}{ac:Array Value}(hs:ac.size=args.length)(ha:PW g args (fun i=>ac[i]?)) (hp:(zcr P b ts args H).pre) (hD:∀k∈(zcr P b ts args H).R,D k):SndN P g base H D w (zcr P b ts args H) (builtin b ts ty consts ac):=by
 have one:∀ {x:V},args=[x]→∃xc,ac=#[xc]∧VRel g x xc:=by
  intro x e;subst e;obtain⟨v,hv,r⟩:=ha 0 x rfl;have hv':ac[0]? =some v:=hv;refine⟨v,?_,r⟩;apply Yao;intro i;match i with
  |0=>rw[hv'];rfl
  |i+1=>rw[Yr (by simp at hs;omega),Yr Zs]
 have two:∀ {x y:V},args=[x,y]→∃xc yc,ac=#[xc,yc]∧VRel g x xc∧VRel g y yc:=by
  intro x y e;subst e;obtain⟨v,hv,r⟩:=ha 0 x rfl;obtain⟨u,hu,r'⟩:=ha 1 y rfl;have hv':ac[0]? =some v:=hv;have hu':ac[1]? =some u:=hu;refine⟨v,u,?_,r,r'⟩;apply Yao;intro i;match i with
  |0=>rw[hv'];rfl
  |1=>rw[hu'];rfl
  |i+2=>rw[Yr (by simp at hs;omega),Yr Zs]
 revert hD;unfold zcr at*;split at hp
 ·rename_i x;obtain⟨xc,rfl,hx⟩:=one rfl;split at hp
  ·rename_i t ht;intro hD;exact(aLen_ok h ht hx hp hD).next
  exact hp.elim
 ·rename_i s x;obtain⟨sc,xc,rfl,hs',hx⟩:=two rfl;split at hp
  ·rename_i sT xT ht;intro hD;obtain rfl:ts=#[sT,xT]:=by apply YbK.1;exact ht
   exact(ztk h hs' hx hp hD).next
  exact hp.elim
 ·rename_i x y;obtain⟨xc,yc,rfl,hx,hy⟩:=two rfl;intro _;exact((zyJ h hx hy).1 hp).next
 ·rename_i x y;obtain⟨xc,yc,rfl,hx,hy⟩:=two rfl;intro _;exact((zyJ h hx hy).2 hp).next
 ·rename_i x;obtain⟨xc,rfl,hx⟩:=one rfl;split at hp
  ·rename_i t ht;intro _;exact(xCap_ok h ht hx hp).next
  exact hp.elim
 ·rename_i d x;obtain⟨dc,xc,rfl,hd',hx⟩:=two rfl;split at hp
  ·rename_i dT xT ht;intro hD;obtain rfl:ts=#[dT,xT]:=by apply YbK.1;exact ht
   exact(xCopy_ok h hd' hx hp hD).next
  exact hp.elim
 ·rename_i x;obtain⟨xc,rfl,hx⟩:=one rfl;split at hp
  ·rename_i t ht;intro hD;exact(zty h ht hx hp hD).next
  exact hp.elim
 ·rename_i x;obtain⟨xc,rfl,hx⟩:=one rfl;intro _;exact(zi5 h hx hp).next
 ·rename_i x n;obtain⟨xc,nc,rfl,hx,hn⟩:=two rfl;split at hp
  ·rename_i pt it ht;intro hD;obtain rfl:ts=#[pt,it]:=by apply YbK.1;exact ht
   exact(zqH h hx hn hp hD).next
  exact hp.elim
 ·rename_i x y z;obtain⟨v0,hv0,r0⟩:=ha 0 x rfl;obtain⟨v1,hv1,r1⟩:=ha 1 y rfl;obtain⟨v2,hv2,r2⟩:=ha 2 z rfl;have hac:ac=#[v0,v1,v2]:=by
   apply Yao;intro i;match i with
   |0=>exact hv0
   |1=>exact hv1
   |2=>exact hv2
   |i+3=>rw[Yr (by simp at hs;omega),Yr Zs]
  subst hac;intro _;exact(aMax3_ok h r0 r1 r2 hp).next
 exact hp.elim
def aop_ok(h:Inv g base H D w){ρ:Operand→V}{ρc:Operand→Value}(hρ:∀x,VRel g (ρ x) (ρc x))(o:Oper)(hp:(aop P ρ o.op H).pre)(hD:∀b∈(aop P ρ o.op H).R,D b):SndN P g base H D w (aop P ρ o.op H) (execOp ρc o):=by
 obtain⟨dst,op,type,pos,after,guard⟩:=o;unfold aop at hp hD ⊢;unfold execOp;dsimp only at*;cases op<;>first|exact hp.elim|skip
 case move x=>exact⟨g,w,_,_,rfl,.inl rfl,hρ x,Post.refl h rfl rfl ⟨rfl,Yc _⟩ rfl⟩
 case assign x=>exact⟨g,w,_,_,rfl,.inl rfl,hρ x,Post.refl h rfl rfl ⟨rfl,Yc _⟩ rfl⟩
 case pick c a b=>exact aPick_ok h (hρ c) (hρ a) (hρ b) hp
 case alloc t=>exact(zyN h _ hp).next
 case box t x=>exact(aBox_ok h (hρ x) hp).next
 case build t ps=>exact(zyM h (by simpa using zg0 hρ ps.toList) hp).next
 case buildSlice t n ps=>exact(zie h (by simpa using zg0 hρ ps.toList) hp).next
 case load t a=>exact(aLoad_ok h (hρ a) hp hD).next
 case store t a x=>exact(zyG h (hρ a) (hρ x) hp hD).next
 case nilCheck x=>
  dsimp only at hp hD ⊢
  have hx:=hρ x
  revert hp hD
  generalize ρ x=v at hx ⊢
  generalize ρc x=vc at hx ⊢
  intro hp _
  have hx0:=hx
  cases hx<;>first
   |exact hp.elim
   |exact⟨g,w,_,_,rfl,.inl rfl,hx0,Post.refl h rfl rfl ⟨rfl,Yc _⟩ rfl⟩
 case binOp op t x y yT=>exact(aBin_ok h x y (hρ x) (hρ y) hp).next
 case unOp op t x=>exact(aUn_ok h (hρ x) hp).next
 case convert s d x=>exact(aConv_ok h (hρ x) hp hD).next
 case makeInterface t x=>exact(zkL h (hρ x) hp).next
 case typeAssert x xT t ok=>exact(ztj h (hρ x) hp).next
 case makeFunc fn first caps=>
  cases fn<;>first|exact hp.elim|skip
  rename_i f
  dsimp only at*
  by_cases hf:first.size=0
  ·rw[Yi hf]at hp ⊢;have hf':first.map ρc=#[]:=by rw[Ybw hf];simp
   refine⟨g,w,.func (.func f) #[] (caps.map ρc),_,by simp[Instr.makeFunc,hf'],.inl rfl,Xn Zs (zj5 hρ caps),Post.refl h rfl rfl ⟨rfl,Yc _⟩ rfl⟩
  ·rw[Ye hf]at hp ⊢;by_cases hc:caps.size=0
   ·rw[Yi hc]at hp ⊢;have hc':caps.map ρc=#[]:=by rw[Ybw hc];simp
    refine⟨g,w,.func (.func f) (first.map ρc) #[],_,by simp[Instr.makeFunc,hc'],.inl rfl,Xv Zs (zj5 hρ first),Post.refl h rfl rfl ⟨rfl,Yc _⟩ rfl⟩
   rw[Ye hc]at hp;exact hp.elim
 case makeSlice t l c=>exact(zkK h (hρ l) (hρ c) hp).next
 case slice t x lo hi mx=>exact(zyH h (hρ x) (zjO hρ lo) (zjO hρ hi) (zjO hρ mx) hp hD).next
 case fieldAddr t x f=>exact(zkO h (hρ x) hp).next
 case field t x f=>exact(zyL h (hρ x) hp).next
 case indexAddr t x i=>exact(zkN h (hρ x) (hρ i) hp).next
 case index t x i=>exact(zyK h (hρ x) (hρ i) hp).next
 case extract x i=>exact(zoQ h (hρ x) hp).next
 case call c=>
  obtain⟨callee,args,argTypes⟩:=c
  cases callee<;>first|exact hp.elim|skip
  rename_i b
  dsimp only at*
  simp only[resolve,invoke,pure_bind]
  exact zoR h Zs (zj5 hρ args) hp hD
 case makeMap t r=>
  cases r with
  |some r=>exact(zkU h (hρ r) hp).next
  |none=>exact(zm0 h).next
 case lookup t x k ok=>exact(zqK h (hρ x) (hρ k) hp hD).next
 case mapUpdate t m k x=>exact(zeD h (hρ m) (hρ k) (hρ x) hp hD).next
 case insert t m k x=>exact(zeD h (hρ m) (hρ k) (hρ x) hp hD).next
 case mapEntry t m k=>exact(zkT h (hρ m) (hρ k) hp hD).next
 case entryStore t m n x=>exact(zhO h (hρ m) (hρ n) (hρ x) hp hD).next
 case range t x=>exact(ztv h (hρ x) hp hD).next
 case entry x=>exact(ztx h (hρ x) hp hD).next
 case next x b=>
  cases b with
  |true=>exact(ztw h (hρ x) hp hD).next
  |false=>exact hp.elim
structure Stat(H H':Hp)(W:ZN):Prop where
 next:H.next≤H'.next
 frame:∀b,b<H.next→b∉W→H'.get b=H.get b
 live:∀b∈W,∃x,H.get b=some x
 keys:(∀b x,H.get b=some x→b<H.next)→∀b x,H'.get b=some x→b<H'.next
def Stat.refl(H:Hp):Stat H H []:=⟨Yc _,fun _ _ _=>rfl,fun _ h=>(by cases h),fun h=>h⟩
def Stat.new(H:Hp)(x:Blk):Stat H (H.new x) []:=by
 refine⟨Ya7 _,fun b hb _=>by rw[Xe,Ye Zo],fun _ h=>by(cases h),fun h b y e=>?_⟩;rw[Xe]at e;show b<H.next+1;split at e
 ·omega
 have:=h b y e;omega
def Stat.put {H:Hp}{b:Nat}{x y:Blk}(hb:H.get b=some y):Stat H (H.put b x) [b]:=by
 refine⟨Yc _,fun k _ hn=>by rw[Xd,Ye (by simpa using hn)],fun k hk=>by simp at hk;subst hk;exact⟨y,hb⟩,fun h k z e=>?_⟩;rw[Xd]at e;split at e
 ·rename_i hk;subst hk;exact h _ _ hb
 exact h k z e
def Stat.take {H:Hp}{b:Nat}{x y:Blk}(hb:H.get b=some y):Stat H ((H.kill b).new x) [b]:=by
 refine⟨Ya7 _,fun k hk hn=>?_,fun k hk=>by simp at hk;subst hk;exact⟨y,hb⟩,fun h k z e=>?_⟩
 ·rw[Xe,Xh,Ye (show ¬k=(H.kill b).next from fun e=>by have e':k=H.next:=e;omega),Ye (by simpa using hn)]
 rw[Xe,Xh]at e;show k<H.next+1;split at e
 ·rename_i hk;have:k=H.next:=hk;omega
 split at e
 ·cases e
 have:=h k z e;omega
def Stat.kill {H:Hp}{b:Nat}{y:Blk}(hb:H.get b=some y):Stat H (H.kill b) [b]:=by
 refine⟨Yc _,fun k hk hn=>?_,fun k hk=>by simp at hk;subst hk;exact⟨y,hb⟩,fun h k z e=>?_⟩
 ·rw[Xh,Ye (by simpa using hn)]
 rw[Xh]at e;split at e
 ·cases e
 exact h k z e
def XR.stat {q:Option XR}(h:∀r,q=some r→Stat H r.h r.W)(hp:(XR.ar H q).pre):Stat H (XR.ar H q).h (XR.ar H q).W:=by
 cases q with
 |none=>exact hp.elim
 |some r=>exact h r rfl
def xEq_h {op:BinOp}{t:TypeId}{x y:V}{r:XR}(h:xEq P op t x y H=some r):r.h=H∧r.W=[]:=by
 unfold xEq at h;split at h<;>first|(cases h;exact⟨rfl,rfl⟩)|cases h
def zgn {t:TypeId}{x i:V}{r:XR}(h:zc1 P t x i H=some r):r.h=H∧r.W=[]:=by
 unfold zc1 at h
 (repeat' split at h)<;>first|(cases h;exact⟨rfl,rfl⟩)|cases h
def zgo {t:TypeId}{ps:List (Nat×V)}{r:XR}(h:zc2 P t ps H=some r):r.h=H∧r.W=[]:=by
 unfold zc2 at h
 (repeat' split at h)<;>first|(cases h;exact⟨rfl,rfl⟩)|cases h
def zqO {s d:TypeId}{x:V}{r:XR}(h:zeF P s d x H=some r):Stat H r.h r.W:=by
 unfold zeF at h
 (repeat' split at h)<;>first|(cases h;exact Stat.refl H)|(cases h;exact Stat.put (by assumption))|cases h
def zkV {t:TypeId}{x k:V}{ok:Bool}{r:XR}(h:zbu P t x k ok H=some r):Stat H r.h r.W:=by
 unfold zbu at h
 (repeat' split at h)<;>first|(cases h;exact Stat.refl H)|cases h
def zgm {t:TypeId}{m k x:V}{r:XR}(h:zaq P t m k x H=some r):Stat H r.h r.W:=by
 unfold zaq at h
 (repeat' split at h)<;>first|(cases h;exact Stat.put (by assumption))|cases h
def zhL {t:TypeId}{m k:V}{r:XR}(h:zbt P t m k H=some r):Stat H r.h r.W:=by
 unfold zbt at h
 (repeat' split at h)<;>first|(cases h;exact Stat.put (by assumption))|cases h
def zfT {m n x:V}{r:XR}(h:zaK m n x H=some r):Stat H r.h r.W:=by
 unfold zaK at h
 (repeat' split at h)<;>first|(cases h;exact Stat.put (by assumption))|cases h
def zmX {t:TypeId}{x:V}{r:XR}(h:zdm P t x H=some r):Stat H r.h r.W:=by
 unfold zdm at h
 (repeat' split at h)<;>first|(cases h;exact Stat.new H _)|cases h
def zmY {x:V}{r:XR}(h:zea x H=some r):Stat H r.h r.W:=by
 unfold zea at h
 (repeat' split at h)<;>first|(cases h;exact Stat.refl H)|(cases h;exact Stat.put (by assumption))|cases h
def zhM {t:TypeId}{x:V}{r:XR}(h:zbj P t x H=some r):Stat H r.h r.W:=by
 unfold zbj at h;split at h
 ·cases h;exact Stat.new H _
 cases h
def zm1 {x:V}{r:XR}(h:zeE x H=some r):Stat H r.h r.W:=by
 unfold zeE at h
 (repeat' split at h)<;>first|(cases h;exact Stat.refl H)|cases h
def ztz {t:TypeId}{x:V}{r:XR}(h:xCap P t x H=some r):Stat H r.h r.W:=by
 unfold xCap at h
 (repeat' split at h)<;>first|(cases h;exact Stat.refl H)|cases h
def zgl {x:V}{r:XR}(h:zaR x H=some r):Stat H r.h r.W:=by
 unfold zaR at h
 (repeat' split at h)<;>first|(cases h;exact Stat.refl H)|cases h
def zkS {t:TypeId}{x n:V}{r:XR}(h:zb2 P t x n H=some r):Stat H r.h r.W:=by
 unfold zb2 at h
 (repeat' split at h)<;>first|(cases h;exact Stat.refl H)|(cases h;exact Stat.kill (by assumption))|cases h
def zqN {dT xT:TypeId}{d x:V}{r:XR}(h:zi6 P dT xT d x H=some r):Stat H r.h r.W:=by
 unfold zi6 at h
 (repeat' split at h)<;>first|(cases h;exact Stat.refl H)|(cases h;exact Stat.put (by assumption))|cases h
def zm2 {t:TypeId}{x:V}{r:XR}(h:zeG P t x H=some r):Stat H r.h r.W:=by
 unfold zeG at h
 (repeat' split at h)<;>first|(cases h;exact Stat.refl H)|(cases h;exact Stat.put (by assumption))|cases h
def zqM {e xT:TypeId}{s x:V}{r:XR}(h:zhN P e xT s x H=some r):Stat H r.h r.W:=by
 unfold zhN at h
 (repeat' split at h)<;>first|(cases h;exact Stat.new H _)|cases h
def aop_stat {ρ:Operand→V}{o:Op}(hp:(aop P ρ o H).pre):Stat H (aop P ρ o H).h (aop P ρ o H).W:=by
 revert hp;cases o<;>first|(intro hp;exact hp.elim)|skip
 all_goals unfold aop
 all_goals try dsimp only
 all_goals try unfold zyI
 all_goals try unfold zfS
 all_goals try unfold aBox
 all_goals try unfold zdp
 all_goals try unfold zS
 all_goals try unfold zcW
 all_goals try unfold zef
 all_goals try unfold aNil
 all_goals try unfold aBin
 all_goals try unfold aUn
 all_goals try unfold zcX
 all_goals try unfold zbM
 all_goals try unfold zeB
 all_goals try unfold zaJ
 all_goals try unfold zbm
 all_goals try unfold zaB
 all_goals try unfold zhJ
 all_goals try unfold zaa
 all_goals try unfold zb0
 all_goals try unfold zbn
 all_goals try unfold zcr
 all_goals try unfold aLen
 all_goals try unfold zdl
 all_goals try unfold aMax
 all_goals try unfold zmU
 all_goals
  repeat' split
 all_goals first
  |(intro hp;exact hp.elim)
  |(intro _;exact Stat.refl H)
  |(intro _;exact Stat.new H _)
  |(intro _;exact Stat.put (by assumption))
  |(intro _;exact Stat.take (by assumption))
  |(intro hp;exact XR.stat (fun r hr=>by rw[(xEq_h hr).1,(xEq_h hr).2];exact Stat.refl H) hp)
  |(intro hp;exact XR.stat (fun r hr=>zqO hr) hp)
  |(intro hp;exact XR.stat (fun r hr=>by rw[(zgn hr).1,(zgn hr).2];exact Stat.refl H) hp)
  |(intro hp;exact XR.stat (fun r hr=>by rw[(zgo hr).1,(zgo hr).2];exact Stat.refl H) hp)
  |(intro hp;exact XR.stat (fun r hr=>by cases hr;exact Stat.new H _) hp)
  |(intro hp;exact XR.stat (fun r hr=>zkV hr) hp)
  |(intro hp;exact XR.stat (fun r hr=>zgm hr) hp)
  |(intro hp;exact XR.stat (fun r hr=>zhL hr) hp)
  |(intro hp;exact XR.stat (fun r hr=>zfT hr) hp)
  |(intro hp;exact XR.stat (fun r hr=>zmX hr) hp)
  |(intro hp;exact XR.stat (fun r hr=>zm1 hr) hp)
  |(intro hp;exact XR.stat (fun r hr=>zhM hr) hp)
  |(intro hp;exact XR.stat (fun r hr=>zmY hr) hp)
  |(intro hp;exact XR.stat (fun r hr=>ztz hr) hp)
  |(intro hp;exact XR.stat (fun r hr=>zqN hr) hp)
  |(intro hp;exact XR.stat (fun r hr=>zm2 hr) hp)
  |(intro hp;exact XR.stat (fun r hr=>zgl hr) hp)
  |(intro hp;exact XR.stat (fun r hr=>zkS hr) hp)
  |(intro hp;exact XR.stat (fun r hr=>zqM hr) hp)
end
end Go.Ab
