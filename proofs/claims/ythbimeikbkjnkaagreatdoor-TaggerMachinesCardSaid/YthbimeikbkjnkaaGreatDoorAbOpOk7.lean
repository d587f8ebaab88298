/- The operations' soundness, seventh part: copy, clear. -/
import Derived.Test.YthbimeikbkjnkaaGreatDoorAbOpOk6
set_option linter.all false
set_option maxHeartbeats 16000000
set_option maxRecDepth 100000
namespace Go.Ab
section
variable {P:Program}{g:G}{base:Nat}{H:Hp}{D:Nat→Prop}{w:World}
theorem zhj(h:Inv g base H D w){b off:Nat}{cs news:List V}{T:Tgt}{na:Array Value}(hDb:D b)(hg:H.get b=some (.cells cs))(hm:g.mu b=some T)(hsz:na.size=news.length)
 (hp:PW g news (fun i=>na[i]?)) (hones:news.all V.one=true) (hb:off+news.length≤cs.length):
 ∃ w',(storeCells ⟨T.c,T.sh+off,none⟩ na.toList).run P w=.ok () w'∧Post g g base H (H.put b (.cells (putCells cs off news))) D [b] w w':=by
 obtain⟨T1,o,m1,p1,h1,r1⟩:=h.cont b _ hDb hg
 obtain rfl:T1=T:=by rw [hm]at m1;exact(Yl m1).symm
 cases r1 with
 |cells hs hbd hcs=>
  rename_i arr ty
  obtain⟨w',arr',hr,hh,hs',hk,honly⟩:=zby (P:=P) (c:=T1.c) (o:=T1.sh+off) na.toList 0 w arr h1 (hp.ones hsz hones) (by simp [hsz];omega)
  refine⟨w',hr,Post.put h hDb hg hm hh honly.other honly.size honly.os honly.tape honly.output ?_⟩
  refine .cells (hs'.trans hs) (by rw [zcj hb];exact hbd) ?_
  refine PW.put hcs (vs:=na.toList) (by simpa using hp) (by simpa using hsz) hb fun k=>?_
  show arr'[T1.sh+k]? =_
  rw [hk]
  simp only [Y5,Yac,hsz]
  by_cases hc:off≤k∧k<off+news.length
  ·rw [Yf (by omega),Yf hc];congr 1;omega
  ·rw [Yd (by omega),Yd hc]
theorem zeU(h:Inv g base H D w){xT:TypeId}{x:V}{xc:Value}{sz n m:Nat}{cs:List V}{R:List Nat}(hx:VRel g x xc)(hs:zad P H xT x sz=some (cs,n,R))(hD:∀ b∈R,D b)(hm:m≤n):
 ∃ arr:Array Value,arr.size=m*sz∧PW g (cs.take (m*sz)) (fun i=>arr[i]?)∧(Builtin.firstCells sz m xc).run P w=.ok arr w:=by
 unfold zad at hs
 split at hs
 ·rename_i s hu
  split at hs
  ·rename_i h1
   subst h1
   cases hs
   obtain⟨sb,rfl,rfl⟩:=hx.inv_str
   refine⟨(sb.extract 0 m).data.map fun b=>.int .u8 b.toNat,?_,?_,rfl⟩
   ·rw [Array.size_map, ←Yac,zcZ]
    simp
    have hm':m≤sb.size:=by simpa using hm
    omega
   ·intro i y hy
    rw [Yap, ←List.map_take,YX]at hy
    cases e:(sb.data.toList.take m)[i]? with
    |none=>rw [e]at hy;cases hy
    |some c=>
     rw [e]at hy
     cases hy
     refine⟨.int .u8 c.toNat,?_,.int _ _⟩
     show ((sb.extract 0 m).data.map fun b=>Value.int .u8 b.toNat)[i]? =_
     rw [Yb3, ←YE,zcZ,Y2,e];rfl
  ·cases hs
 ·rename_i e hu
  have hms:m*sz≤n*sz:=YH _ hm
  obtain⟨hl,hc⟩:=zbp h hx hs hD
  rcases hc with⟨rfl,rfl⟩|⟨a,cap,rfl,hc⟩
  ·obtain rfl:m=0:=by omega
   exact⟨#[],by simp,by rw [Ybm,Ybk];exact PW.nil,rfl⟩
  ·have hz:m*sz=0→∃ arr:Array Value,arr.size=m*sz∧PW g (cs.take (m*sz)) (fun i=>arr[i]?)∧(Builtin.firstCells sz m (.slice (some a) n cap)).run P w=.ok arr w:=fun e0=>
    ⟨#[],by simp [e0],by rw [e0,Ybk];exact PW.nil,by simp [Builtin.firstCells,e0,loadCells,loadCellsFrom]⟩
   rcases hc with⟨rfl,e⟩|⟨e0,e⟩|⟨c,o,arr,t,fr,rfl,hh,hpw,hb⟩
   ·obtain rfl:m=0:=by omega
    exact hz (by simp)
   ·exact hz (by omega)
   ·refine⟨arr.extract o (o+m*sz),by simp;omega,(hpw.take (m*sz)).extract (by rw [YG,hl];omega),?_⟩
    simp only [Builtin.firstCells]
    exact zaB hh (by omega)
 ·cases hs
theorem xCopy_ok(h:Inv g base H D w){dT xT ty:TypeId}{d x:V}{dc xc:Value}(hd:VRel g d dc)(hx:VRel g x xc)(hp:(XR.ar H (zj8 P dT xT d x H)).pre)(hD:∀ b∈(XR.ar H (zj8 P dT xT d x H)).R,D b):
 Snd P g base H D w (XR.ar H (zj8 P dT xT d x H)) (Builtin.copy_ #[dT,xT] ty #[dc,xc]):=by
 cases hq:zj8 P dT xT d x H with
 |none=>rw [hq]at hp;exact hp.elim
 |some q=>
  rw [hq]at hD
  clear hp
  unfold zj8 at hq
  split at hq
  rotate_left;·cases hq
  rename_i e he
  have ht:=zdG he
  split at hq
  rotate_left;·cases hq
  rename_i sz hsz
  split at hq
  ·rename_i news n R hsrc
   cases hq
   cases hd
   have hDR:∀ b∈R,D b:=fun b hb=>hD b hb
   obtain⟨_,_,hlen,_⟩:=zb5 h hx hsrc hDR
   obtain⟨arr,_,_,hrun⟩:=zeU h hx hsrc hDR (Yk n)
   refine Snd.val h _ ?_ (.int _ _)
   simp [Builtin.copy_,run_underlying ht,hlen,zan hsz,hrun,goInt]
  ·rename_i news n R b off len sz' kc hsrc
   obtain⟨T,o,cap,hm,hl,ho,hk,rfl⟩:=hd.inv_sl
   split at hq
   ·rename_i h0
    rw [YaR]at h0
    cases hq
    have hDR:∀ b∈R,D b:=fun b hb=>hD b hb
    obtain⟨_,_,hlen,_⟩:=zb5 h hx hsrc hDR
    obtain⟨arr,hs0,_,hrun⟩:=zeU h hx hsrc hDR (Yk n)
    have:arr=#[]:=Ybu (by simpa using hs0)
    subst this
    have h0':Nat.min n len=0:=h0
    refine Snd.val h _ ?_ (.int _ _)
    simp [Builtin.copy_,run_underlying ht,hlen,zan hsz,hrun,goInt,h0',storeCells]
   ·rename_i h0
    have h0:min n len≠0:=fun e=>by rw [e]at h0;cases h0
    split at hq
    rotate_left;·cases hq
    rename_i cs hg
    split at hq
    rotate_left;·cases hq
    rename_i hc
    cases hq
    obtain⟨rfl,hones,hb⟩:=YaD hc
    have hDR:∀ b∈R,D b:=fun b' hb=>hD b' (Yz _ hb)
    have hDb:D b:=hD b (YF ..)
    obtain⟨hcl,_,hlen,_⟩:=zb5 h hx hsrc hDR
    obtain⟨arr,hs1,hpw,hrun⟩:=zeU (m:=min n len) h hx hsrc hDR (Nat.min_le_left _ _)
    have hnl:(news.take (min n len*sz')).length=min n len*sz':=by rw [YG,hcl];exact YaK (YH _ (Nat.min_le_left _ _))
    obtain⟨e1,_⟩:=ho (by omega)
    obtain⟨w',hr,hpost⟩:=zhj (P:=P) (off:=off) (na:=arr) h hDb hg hm (by rw [hs1,hnl]) hpw hones (by rw [hnl];exact hb)
    have hmin:Nat.min n len=min n len:=rfl
    refine⟨g,w',.int .i64 (min n len:Nat),?_,.int _ _,hpost⟩
    subst e1
    simp [Builtin.copy_,run_underlying ht,hlen,zan hsz,hmin,hrun,hr,goInt]
  ·cases hq
theorem zwh(h:Inv g base H D w){t ty:TypeId}{ts:Array TypeId}(htt:ts[0]? =some t){x:V}{xc:Value}(hx:VRel g x xc)(hp:(XR.ar H (zfg P t x H)).pre)(hD:∀ b∈(XR.ar H (zfg P t x H)).R,D b):
 Snd P g base H D w (XR.ar H (zfg P t x H)) (Builtin.clear_ ts ty #[xc]):=by
 cases hq:zfg P t x H with
 |none=>rw [hq]at hp;exact hp.elim
 |some q=>
  rw [hq]at hD
  clear hp
  unfold zfg at hq
  split at hq
  rotate_left;·cases hq
  rename_i e he
  have ht:=zdG he
  split at hq
  rotate_left;·cases hq
  rename_i sz z hsz hz
  split at hq
  ·cases hq
   cases hx
   refine Snd.val h _ (v:=.tuple #[]) ?_ (VRel.mk_tup rfl PW.nil)
   simp [Builtin.clear_,htt,run_underlying ht]
  ·rename_i b off len sz' kc
   obtain⟨T,o,cap,hm,hl,ho,hk,rfl⟩:=hx.inv_sl
   split at hq
   ·rename_i h0
    rw [YaR]at h0
    subst h0
    cases hq
    refine Snd.val h _ (v:=.tuple #[]) ?_ (VRel.mk_tup rfl PW.nil)
    simp [Builtin.clear_,htt,run_underlying ht]
   ·rename_i h0
    have h0:len≠0:=fun e=>by rw [e]at h0;cases h0
    split at hq
    rotate_left;·cases hq
    rename_i cs hg
    split at hq
    rotate_left;·cases hq
    rename_i hc
    cases hq
    obtain⟨rfl,hok,hzl,hones,hb⟩:=YaD hc
    have hDb:D b:=hD b (YF ..)
    obtain⟨zl,zp⟩:=zgN (g:=g) (n:=len) hz hsz hok hzl
    obtain⟨zs,_,_⟩:=zao (zdW g z) hok
    have hzc:Builtin.zeroCells z.cells len=madeCells z.cells (len*sz'):=by unfold Builtin.zeroCells madeCells;rw [zs,hzl]
    obtain⟨e1,_⟩:=ho (by omega)
    obtain⟨w',hr,hpost⟩:=zhj (P:=P) (off:=off) (na:=Builtin.zeroCells z.cells len) h hDb hg hm (by rw [hzc,size_madeCells,zl]) (by rw [hzc];exact zp) hones (by rw [zl];exact hb)
    refine⟨g,w',.tuple #[],?_,VRel.mk_tup rfl PW.nil,hpost⟩
    subst e1
    obtain⟨k,rfl⟩:∃ k,len=k+1:=⟨len - 1,by omega⟩
    simp [Builtin.clear_,htt,run_underlying ht,zbk hz,hr]
  ·cases hq
end
end Go.Ab

namespace Go.Ab
def za1(P:Program)(t:TypeId)(x:V)(H:Hp):AR:=
 match P.underlying t with
 |some (.interface _)=>.bad H
 |some _=>.val H (.ifc t x)
 |none=>.bad H
def znc(P:Program)(t:TypeId):Bool:=
 match P.underlying t with
 |some (.interface _)=>true
 |_=>false
def zdS(P:Program)(x:V)(asserted:TypeId)(ok:Bool)(H:Hp):AR:=
 match P.underlying asserted,zaO P asserted,x with
 |some _,some z,.ifc t v=>
  if znc P asserted=true then .bad H else
  if t=asserted then .val H (if ok then .tup [v,.bool true]else v)else
  if ok then .val H (.tup [cv z,.bool false])else .bad H
 |some _,some z,.nilI=>
  if znc P asserted=true then .bad H else if ok then .val H (.tup [cv z,.bool false])else .bad H
 |_,_,_=>.bad H
def zBW(c a b:V)(H:Hp):AR:=
 match c with
 | .bool t=>.val H (if t then a else b)
 |_=>.bad H
def aMax(x y:V)(mx:Bool)(H:Hp):AR:=
 match x,y with
 | .int k a,.int _ b=>.val H (.int k (if mx then maxI a b else minI a b))
 |_,_=>.bad H
def zch(P:Program)(b:Builtin)(ts:Array TypeId)(args:List V)(H:Hp):AR:=
 match b,args with
 | .len,[x]=>match ts[0]? with|some t=>aLen P t x H|none=>.bad H
 | .append,[s,x]=>match ts.toList with|[sT,xT]=>zcO P sT xT s x H|_=>.bad H
 | .max,[x,y]=>aMax x y true H
 | .min,[x,y]=>aMax x y false H
 | .cap,[x]=>match ts[0]? with|some t=>XR.ar H (xCap P t x H)|none=>.bad H
 | .copy,[d,x]=>match ts.toList with|[dT,xT]=>XR.ar H (zj8 P dT xT d x H)|_=>.bad H
 | .clear,[x]=>match ts[0]? with|some t=>XR.ar H (zfg P t x H)|none=>.bad H
 | .unsafeSliceData,[x]=>XR.ar H (zbb x H)
 | .unsafeString,[x,n]=>match ts.toList with|[pt,_]=>XR.ar H (zcm P pt x n H)|_=>.bad H
 |_,_=>.bad H
def aop(P:Program)(ρ:Operand→V)(o:Op)(H:Hp):AR:=
 match o with
 | .move x| .assign x=>.val H (ρ x)
 | .pick c a b=>zBW (ρ c) (ρ a) (ρ b) H
 | .alloc t=>zeQ P t H
 | .box _ x=>aBox (ρ x) H
 | .build t ps=>zc5 P t (ps.toList.map fun p=>(p.1,ρ p.2)) H
 | .buildSlice t n ps=>zV P t n (ps.toList.map fun p=>(p.1,ρ p.2)) H
 | .load t a=>zcr P t (ρ a) H
 | .store t a x=>zdX P t (ρ a) (ρ x) H
 | .nilCheck x=>aNil (ρ x) H
 | .binOp op t x y _=>aBin P op t (ρ x) (ρ y) H
 | .unOp op _ x=>aUn op (ρ x) H
 | .convert s d x=>zdn P s d (ρ x) H
 | .makeInterface t x=>za1 P t (ρ x) H
 | .typeAssert x _ t ok=>zdS P (ρ x) t ok H
 | .makeFunc (.func f) first caps=>if first.size=0 then .val H (.fn f (caps.toList.map ρ))else if caps.size=0 then .val H (.bnd f (first.toList.map ρ))else .bad H
 | .makeSlice t l c=>zaH P t (ρ l) (ρ c) H
 | .slice t x lo hi mx=>za3 P t (ρ x) (lo.map ρ) (hi.map ρ) (mx.map ρ) H
 | .fieldAddr t x f=>zaz P t (ρ x) f H
 | .field t x f=>zfS P t (ρ x) f H
 | .indexAddr t x i=>zai P t (ρ x) (ρ i) H
 | .index t x i=>zc4 P t (ρ x) (ρ i) H
 | .extract x i=>zbj (ρ x) i H
 | .call { callee:=.builtin b,args,argTypes }=>zch P b argTypes (args.toList.map ρ) H
 | .makeMap _ none=>XR.ar H (zff H)
 | .lookup t x k ok=>XR.ar H (zaP P t (ρ x) (ρ k) ok H)
 | .mapUpdate t m k x| .insert t m k x=>XR.ar H (zaw P t (ρ m) (ρ k) (ρ x) H)
 | .mapEntry t m k=>XR.ar H (zbO P t (ρ m) (ρ k) H)
 | .entryStore _ m n x=>XR.ar H (za4 (ρ m) (ρ n) (ρ x) H)
 | .range t x=>XR.ar H (zcB P t (ρ x) H)
 | .entry x=>XR.ar H (zdU (ρ x) H)
 |_=>.bad H
section
variable {P:Program}{g:G}{base:Nat}{H:Hp}{D:Nat→Prop}{w:World}
def SndN(P:Program)(g:G)(base:Nat)(H:Hp)(D:Nat→Prop)(w:World)(r:AR)(s:Sem Next):Prop:=
 ∃ g' w' vc n,s.run P w=.ok n w'∧(n=.value vc∨(n=.skip∧vc=undef))∧VRel g' r.v vc∧Post g g' base H r.h D r.W w w'
theorem Snd.next {r:AR}{s:Sem Value}(h:Snd P g base H D w r s):SndN P g base H D w r (do pure (.value (←s))):=by obtain⟨g',w',vc,h1,h2,h3⟩:=h;exact⟨g',w',vc,.value vc,by simp [h1],.inl rfl,h2,h3⟩
theorem SndU.next {r:AR}{s:Sem Unit}(h:SndU P g base H D w r s):SndN P g base H D w r (do s;pure .skip):=by obtain⟨hv,g',w',h1,h3⟩:=h;exact⟨g',w',undef,.skip,by simp [h1],.inr ⟨rfl,rfl⟩,by rw [hv];exact VRel.mk_tup rfl PW.nil,h3⟩
theorem zhN {ρ:Operand→V}{ρc:Operand→Value}(hρ:∀ x,VRel g (ρ x) (ρc x)):∀(l:List (Nat×Operand)),Parts g (l.map fun p=>(p.1,ρ p.2)) (l.map fun p=>(p.1,ρc p.2))
 |[]=>.nil
 |(_,x)::l=>.cons (hρ x) (zhN hρ l)
theorem zlb {ρ:Operand→V}{ρc:Operand→Value}(hρ:∀ x,VRel g (ρ x) (ρc x))(xs:Array Operand):PW g (xs.toList.map ρ) (fun i=>(xs.map ρc)[i]?):=by
 intro i v hv;rw [YX]at hv;cases e:xs.toList[i]? with
 |none=>rw [e]at hv;cases hv
 |some x=>rw [e]at hv;cases hv;exact⟨ρc x,by show (xs.map ρc)[i]? =_;rw [Yb3, ←YE,e];rfl,hρ x⟩
theorem zkS {ρ:Operand→V}{ρc:Operand→Value}(hρ:∀ x,VRel g (ρ x) (ρc x))(o:Option Operand):ORel g (o.map ρ) (o.map ρc):=by
 cases o with
 |none=>trivial
 |some x=>exact hρ x
theorem aPick_ok(h:Inv g base H D w){c a b:V}{cc ac bc:Value}(hc:VRel g c cc)(ha:VRel g a ac)(hb:VRel g b bc)(hp:(zBW c a b H).pre):
 SndN P g base H D w (zBW c a b H) (do pure (.value (if ←asBool cc then ac else bc))):=by
 cases hc<;>first|exact hp.elim|skip
 rename_i t
 refine⟨g,w,if t then ac else bc,_,rfl,.inl ?_,?_,Post.refl h rfl rfl ⟨rfl,Ye _⟩ rfl⟩
 ·cases t<;>rfl
 ·cases t<;>simp [zBW,AR.val,ha,hb]
theorem zlX(h:Inv g base H D w){t:TypeId}{x:V}{xc:Value}(hx:VRel g x xc)(hp:(za1 P t x H).pre):Snd P g base H D w (za1 P t x H) (Instr.makeInterface t xc):=by
 unfold za1 at*;split at hp
 ·exact hp.elim
 ·rename_i d hne hu;refine Snd.val h _ (v:=.iface t xc) ?_ (.ifc hx);simp only [Instr.makeInterface,Sem.run_bind,run_underlying hu,Result.andThen_ok];cases d<;>first|rfl|exact absurd rfl (hne _)
 ·exact hp.elim
theorem zv0(h:Inv g base H D w){xT t:TypeId}{ok:Bool}{x:V}{xc:Value}(hx:VRel g x xc)(hp:(zdS P x t ok H).pre):Snd P g base H D w (zdS P x t ok H) (Instr.typeAssert xc xT t ok):=by
 unfold zdS at*;have zr:∀ {z:Value},VRel g (.tup [cv z,.bool false]) (.tuple #[z,.bool false]):=by
  intro z;refine VRel.mk_tup rfl fun i y hy=>?_;match i,hy with
  |0,hy=>cases hy;exact⟨_,rfl,zdW g z⟩
  |1,hy=>cases hy;exact⟨_,rfl,.bool _⟩
 split at hp
 ·rename_i d z u v hu hz;by_cases hi:znc P t=true
  ·rw [Yf hi]at hp;exact hp.elim
  ·rw [Yd hi]at hp ⊢;cases hx with
   |ifc hv=>
    rename_i vc;have hni:∀ ms,d≠.interface ms:=fun ms e=>hi (by simp [znc,hu,e]);by_cases ht:u=t
    ·rw [Yf ht]at hp ⊢;subst ht;refine Snd.val h _ (v:=if ok then .tuple #[vc,.bool true]else vc) ?_ ?_
     ·simp only [Instr.typeAssert,Sem.run_bind,run_underlying hu,Result.andThen_ok];cases d<;>first|exact absurd rfl (hni _)|simp
     ·cases ok
      ·simpa using hv
      ·refine VRel.mk_tup rfl fun i y hy=>?_;match i,hy with
       |0,hy=>cases hy;exact⟨_,rfl,hv⟩
       |1,hy=>cases hy;exact⟨_,rfl,.bool _⟩
    ·rw [Yd ht]at hp ⊢;cases ok with
     |false=>exact hp.elim
     |true=>
      refine Snd.val h _ (v:=.tuple #[z,.bool false]) ?_ zr;simp only [Instr.typeAssert,Sem.run_bind,run_underlying hu,Result.andThen_ok];cases d<;>first|exact absurd rfl (hni _)|simp [ht,zbk hz]
 ·rename_i d z hu hz;by_cases hi:znc P t=true
  ·rw [Yf hi]at hp;exact hp.elim
  ·rw [Yd hi]at hp ⊢;cases hx;have hni:∀ ms,d≠.interface ms:=fun ms e=>hi (by simp [znc,hu,e]);cases ok with
   |false=>exact hp.elim
   |true=>
    refine Snd.val h _ (v:=.tuple #[z,.bool false]) ?_ zr;simp only [Instr.typeAssert,Sem.run_bind,run_underlying hu,Result.andThen_ok];cases d<;>first|exact absurd rfl (hni _)|simp [zbk hz]
 ·exact hp.elim
theorem zBX(h:Inv g base H D w){ts:Array TypeId}{ty:TypeId}{x y:V}{xc yc:Value}(hx:VRel g x xc)(hy:VRel g y yc):
 ((aMax x y true H).pre→Snd P g base H D w (aMax x y true H) (Builtin.max_ ts ty #[xc,yc]))∧((aMax x y false H).pre→Snd P g base H D w (aMax x y false H) (Builtin.min_ ts ty #[xc,yc])):=by
 constructor<;>intro hp
 ·cases hx<;>cases hy<;>first|exact hp.elim|skip
  refine Snd.val h _ (v:=.int _ (maxI _ _)) ?_ (.int _ _)
  simp [Builtin.max_,Builtin.max2,maxI]
 ·cases hx<;>cases hy<;>first|exact hp.elim|skip
  refine Snd.val h _ (v:=.int _ (minI _ _)) ?_ (.int _ _)
  simp [Builtin.min_,Builtin.min2,minI]
theorem zqI(h:Inv g base H D w){b:Builtin}{ts:Array TypeId}{ty:TypeId}{consts:Array Bool}{args:List V}{ac:Array Value}(hs:ac.size=args.length)(ha:PW g args (fun i=>ac[i]?))
 (hp:(zch P b ts args H).pre) (hD:∀ k∈(zch P b ts args H).R,D k):SndN P g base H D w (zch P b ts args H) (builtin b ts ty consts ac):=by
 have one:∀ {x:V},args=[x]→∃ xc,ac=#[xc]∧VRel g x xc:=by
  intro x e;subst e;obtain⟨v,hv,r⟩:=ha 0 x rfl;have hv':ac[0]? =some v:=hv;refine⟨v,?_,r⟩;apply YaE;intro i;match i with
  |0=>rw [hv'];rfl
  |i+1=>rw [YC (by simp at hs;omega),YC (by simp)]
 have two:∀ {x y:V},args=[x,y]→∃ xc yc,ac=#[xc,yc]∧VRel g x xc∧VRel g y yc:=by
  intro x y e;subst e;obtain⟨v,hv,r⟩:=ha 0 x rfl;obtain⟨u,hu,r'⟩:=ha 1 y rfl;have hv':ac[0]? =some v:=hv;have hu':ac[1]? =some u:=hu;refine⟨v,u,?_,r,r'⟩;apply YaE;intro i;match i with
  |0=>rw [hv'];rfl
  |1=>rw [hu'];rfl
  |i+2=>rw [YC (by simp at hs;omega),YC (by simp)]
 revert hD
 unfold zch at*
 split at hp
 ·rename_i x
  obtain⟨xc,rfl,hx⟩:=one rfl
  split at hp
  ·rename_i t ht
   intro hD
   exact(aLen_ok h ht hx hp hD).next
  ·exact hp.elim
 ·rename_i s x
  obtain⟨sc,xc,rfl,hs',hx⟩:=two rfl
  split at hp
  ·rename_i sT xT ht
   intro hD
   obtain rfl:ts=#[sT,xT]:=by apply Yce.1;exact ht
   exact(zv1 h hs' hx hp hD).next
  ·exact hp.elim
 ·rename_i x y
  obtain⟨xc,yc,rfl,hx,hy⟩:=two rfl
  intro _
  exact((zBX h hx hy).1 hp).next
 ·rename_i x y
  obtain⟨xc,yc,rfl,hx,hy⟩:=two rfl
  intro _
  exact((zBX h hx hy).2 hp).next
 ·rename_i x
  obtain⟨xc,rfl,hx⟩:=one rfl
  split at hp
  ·rename_i t ht
   intro _
   exact(xCap_ok h ht hx hp).next
  ·exact hp.elim
 ·rename_i d x
  obtain⟨dc,xc,rfl,hd',hx⟩:=two rfl
  split at hp
  ·rename_i dT xT ht
   intro hD
   obtain rfl:ts=#[dT,xT]:=by apply Yce.1;exact ht
   exact(xCopy_ok h hd' hx hp hD).next
  ·exact hp.elim
 ·rename_i x
  obtain⟨xc,rfl,hx⟩:=one rfl
  split at hp
  ·rename_i t ht
   intro hD
   exact(zwh h ht hx hp hD).next
  ·exact hp.elim
 ·rename_i x
  obtain⟨xc,rfl,hx⟩:=one rfl
  intro _
  exact(zj6 h hx hp).next
 ·rename_i x n
  obtain⟨xc,nc,rfl,hx,hn⟩:=two rfl
  split at hp
  ·rename_i pt it ht
   intro hD
   obtain rfl:ts=#[pt,it]:=by apply Yce.1;exact ht
   exact(zsA h hx hn hp hD).next
  ·exact hp.elim
 ·exact hp.elim
theorem aop_ok(h:Inv g base H D w){ρ:Operand→V}{ρc:Operand→Value}(hρ:∀ x,VRel g (ρ x) (ρc x))(o:Oper)(hp:(aop P ρ o.op H).pre)(hD:∀ b∈(aop P ρ o.op H).R,D b):
 SndN P g base H D w (aop P ρ o.op H) (execOp ρc o):=by
 obtain⟨dst,op,type,pos,after,guard⟩:=o
 unfold aop at hp hD ⊢
 unfold execOp
 dsimp only at*
 cases op<;>first|exact hp.elim|skip
 case move x=>exact⟨g,w,_,_,rfl,.inl rfl,hρ x,Post.refl h rfl rfl ⟨rfl,Ye _⟩ rfl⟩
 case assign x=>exact⟨g,w,_,_,rfl,.inl rfl,hρ x,Post.refl h rfl rfl ⟨rfl,Ye _⟩ rfl⟩
 case pick c a b=>exact aPick_ok h (hρ c) (hρ a) (hρ b) hp
 case alloc t=>exact(zB1 h _ hp).next
 case box t x=>exact(aBox_ok h (hρ x) hp).next
 case build t ps=>exact(zB0 h (by simpa using zhN hρ ps.toList) hp).next
 case buildSlice t n ps=>exact(zjb h (by simpa using zhN hρ ps.toList) hp).next
 case load t a=>exact(aLoad_ok h (hρ a) hp hD).next
 case store t a x=>exact(zBU h (hρ a) (hρ x) hp hD).next
 case nilCheck x=>
  dsimp only at hp hD ⊢
  have hx:=hρ x
  revert hp hD
  generalize ρ x=v at hx ⊢
  generalize ρc x=vc at hx ⊢
  intro hp _
  have hx0:=hx
  cases hx<;>first
   |exact hp.elim
   |exact⟨g,w,_,_,rfl,.inl rfl,hx0,Post.refl h rfl rfl ⟨rfl,Ye _⟩ rfl⟩
 case binOp op t x y yT=>exact(aBin_ok h x y (hρ x) (hρ y) hp).next
 case unOp op t x=>exact(aUn_ok h (hρ x) hp).next
 case convert s d x=>exact(aConv_ok h (hρ x) hp hD).next
 case makeInterface t x=>exact(zlX h (hρ x) hp).next
 case typeAssert x xT t ok=>exact(zv0 h (hρ x) hp).next
 case makeFunc fn first caps=>
  cases fn<;>first|exact hp.elim|skip
  rename_i f
  dsimp only at*
  by_cases hf:first.size=0
  ·rw [Yf hf]at hp ⊢
   have hf':first.map ρc=#[]:=by rw [Ybu hf];simp
   refine⟨g,w,.func (.func f) #[] (caps.map ρc),_,by simp [Instr.makeFunc,hf'],.inl rfl,VRel.mk_fn (by simp) (zlb hρ caps),Post.refl h rfl rfl ⟨rfl,Ye _⟩ rfl⟩
  ·rw [Yd hf]at hp ⊢
   by_cases hc:caps.size=0
   ·rw [Yf hc]at hp ⊢
    have hc':caps.map ρc=#[]:=by rw [Ybu hc];simp
    refine⟨g,w,.func (.func f) (first.map ρc) #[],_,by simp [Instr.makeFunc,hc'],.inl rfl,VRel.mk_bnd (by simp) (zlb hρ first),Post.refl h rfl rfl ⟨rfl,Ye _⟩ rfl⟩
   ·rw [Yd hc]at hp;exact hp.elim
 case makeSlice t l c=>exact(zlW h (hρ l) (hρ c) hp).next
 case slice t x lo hi mx=>exact(zBV h (hρ x) (zkS hρ lo) (zkS hρ hi) (zkS hρ mx) hp hD).next
 case fieldAddr t x f=>exact(zlZ h (hρ x) hp).next
 case field t x f=>exact(zBZ h (hρ x) hp).next
 case indexAddr t x i=>exact(zlY h (hρ x) (hρ i) hp).next
 case index t x i=>exact(zBY h (hρ x) (hρ i) hp).next
 case extract x i=>exact(zqH h (hρ x) hp).next
 case call c=>
  obtain⟨callee,args,argTypes⟩:=c
  cases callee<;>first|exact hp.elim|skip
  rename_i b
  dsimp only at*
  simp only [resolve,invoke,pure_bind]
  exact zqI h (by simp) (zlb hρ args) hp hD
 case makeMap t r=>
  cases r with
  |some r=>exact hp.elim
  |none=>exact(zoz h).next
 case lookup t x k ok=>exact(zsC h (hρ x) (hρ k) hp hD).next
 case mapUpdate t m k x=>exact(zfe h (hρ m) (hρ k) (hρ x) hp hD).next
 case insert t m k x=>exact(zfe h (hρ m) (hρ k) (hρ x) hp hD).next
 case mapEntry t m k=>exact(zl3 h (hρ m) (hρ k) hp hD).next
 case entryStore t m n x=>exact(ziH h (hρ m) (hρ n) (hρ x) hp hD).next
 case range t x=>exact(zwf h (hρ x) hp hD).next
 case entry x=>exact(zwg h (hρ x) hp hD).next
structure Stat(H H':Hp)(W:List Nat):Prop where
 next:H.next≤H'.next
 frame:∀ b,b<H.next→b∉W→H'.get b=H.get b
 live:∀ b∈W,∃ x,H.get b=some x
 keys:(∀ b x,H.get b=some x→b<H.next)→∀ b x,H'.get b=some x→b<H'.next
theorem Stat.refl(H:Hp):Stat H H []:=⟨Ye _,fun _ _ _=>rfl,fun _ h=>(by cases h),fun h=>h⟩
theorem Stat.new(H:Hp)(x:Blk):Stat H (H.new x) []:=by
 refine⟨Ybg _,fun b hb _=>by rw [Hp.get_new,Yd (by omega)],fun _ h=>by(cases h),fun h b y e=>?_⟩;rw [Hp.get_new]at e;show b<H.next+1;split at e
 ·omega
 ·have:=h b y e;omega
theorem Stat.put {H:Hp}{b:Nat}{x y:Blk}(hb:H.get b=some y):Stat H (H.put b x) [b]:=by
 refine⟨Ye _,fun k _ hn=>by rw [Hp.get_put,Yd (by simpa using hn)],fun k hk=>by simp at hk;subst hk;exact⟨y,hb⟩,fun h k z e=>?_⟩;rw [Hp.get_put]at e;split at e
 ·rename_i hk;subst hk;exact h _ _ hb
 ·exact h k z e
theorem Stat.take {H:Hp}{b:Nat}{x y:Blk}(hb:H.get b=some y):Stat H ((H.kill b).new x) [b]:=by
 refine⟨Ybg _,fun k hk hn=>?_,fun k hk=>by simp at hk;subst hk;exact⟨y,hb⟩,fun h k z e=>?_⟩
 ·rw [Hp.get_new,Hp.get_kill,Yd (show ¬k=(H.kill b).next from fun e=>by have e':k=H.next:=e;omega),Yd (by simpa using hn)]
 ·rw [Hp.get_new,Hp.get_kill]at e;show k<H.next+1;split at e
  ·rename_i hk;have:k=H.next:=hk;omega
  ·split at e
   ·cases e
   ·have:=h k z e;omega
theorem Stat.kill {H:Hp}{b:Nat}{y:Blk}(hb:H.get b=some y):Stat H (H.kill b) [b]:=by
 refine⟨Ye _,fun k hk hn=>?_,fun k hk=>by simp at hk;subst hk;exact⟨y,hb⟩,fun h k z e=>?_⟩
 ·rw [Hp.get_kill,Yd (by simpa using hn)]
 ·rw [Hp.get_kill]at e;split at e
  ·cases e
  ·exact h k z e
theorem XR.stat {q:Option XR}(h:∀ r,q=some r→Stat H r.h r.W)(hp:(XR.ar H q).pre):Stat H (XR.ar H q).h (XR.ar H q).W:=by
 cases q with
 |none=>exact hp.elim
 |some r=>exact h r rfl
theorem xEq_h {op:BinOp}{t:TypeId}{x y:V}{r:XR}(h:xEq P op t x y H=some r):r.h=H∧r.W=[]:=by
 unfold xEq at h;split at h<;>first|(cases h;exact⟨rfl,rfl⟩)|cases h
theorem zhh {t:TypeId}{x i:V}{r:XR}(h:zdq P t x i H=some r):r.h=H∧r.W=[]:=by
 unfold zdq at h
 (repeat' split at h)<;>first|(cases h;exact⟨rfl,rfl⟩)|cases h
theorem zhi {t:TypeId}{ps:List (Nat×V)}{r:XR}(h:zdr P t ps H=some r):r.h=H∧r.W=[]:=by
 unfold zdr at h
 (repeat' split at h)<;>first|(cases h;exact⟨rfl,rfl⟩)|cases h
theorem zsG {s d:TypeId}{x:V}{r:XR}(h:zfV P s d x H=some r):Stat H r.h r.W:=by
 unfold zfV at h
 (repeat' split at h)<;>first|(cases h;exact Stat.refl H)|cases h
theorem zl4 {t:TypeId}{x k:V}{ok:Bool}{r:XR}(h:zaP P t x k ok H=some r):Stat H r.h r.W:=by
 unfold zaP at h
 (repeat' split at h)<;>first|(cases h;exact Stat.refl H)|cases h
theorem zhf {t:TypeId}{m k x:V}{r:XR}(h:zaw P t m k x H=some r):Stat H r.h r.W:=by
 unfold zaw at h
 (repeat' split at h)<;>first|(cases h;exact Stat.put (by assumption))|cases h
theorem ziG {t:TypeId}{m k:V}{r:XR}(h:zbO P t m k H=some r):Stat H r.h r.W:=by
 unfold zbO at h
 (repeat' split at h)<;>first|(cases h;exact Stat.put (by assumption))|cases h
theorem zgF {m n x:V}{r:XR}(h:za4 m n x H=some r):Stat H r.h r.W:=by
 unfold za4 at h
 (repeat' split at h)<;>first|(cases h;exact Stat.put (by assumption))|cases h
theorem zow {t:TypeId}{x:V}{r:XR}(h:zcB P t x H=some r):Stat H r.h r.W:=by
 unfold zcB at h
 (repeat' split at h)<;>first|(cases h;exact Stat.new H _)|cases h
theorem zoA {x:V}{r:XR}(h:zdU x H=some r):Stat H r.h r.W:=by
 unfold zdU at h
 (repeat' split at h)<;>first|(cases h;exact Stat.refl H)|cases h
theorem zwi {t:TypeId}{x:V}{r:XR}(h:xCap P t x H=some r):Stat H r.h r.W:=by
 unfold xCap at h
 (repeat' split at h)<;>first|(cases h;exact Stat.refl H)|cases h
theorem zhe {x:V}{r:XR}(h:zbb x H=some r):Stat H r.h r.W:=by
 unfold zbb at h
 (repeat' split at h)<;>first|(cases h;exact Stat.refl H)|cases h
theorem zl2 {t:TypeId}{x n:V}{r:XR}(h:zcm P t x n H=some r):Stat H r.h r.W:=by
 unfold zcm at h
 (repeat' split at h)<;>first|(cases h;exact Stat.refl H)|(cases h;exact Stat.kill (by assumption))|cases h
theorem zsF {dT xT:TypeId}{d x:V}{r:XR}(h:zj8 P dT xT d x H=some r):Stat H r.h r.W:=by
 unfold zj8 at h
 (repeat' split at h)<;>first|(cases h;exact Stat.refl H)|(cases h;exact Stat.put (by assumption))|cases h
theorem zoB {t:TypeId}{x:V}{r:XR}(h:zfg P t x H=some r):Stat H r.h r.W:=by
 unfold zfg at h
 (repeat' split at h)<;>first|(cases h;exact Stat.refl H)|(cases h;exact Stat.put (by assumption))|cases h
theorem zsE {e xT:TypeId}{s x:V}{r:XR}(h:zfU P e xT s x H=some r):Stat H r.h r.W:=by
 unfold zfU at h
 (repeat' split at h)<;>first|(cases h;exact Stat.new H _)|cases h
theorem aop_stat {ρ:Operand→V}{o:Op}(hp:(aop P ρ o H).pre):Stat H (aop P ρ o H).h (aop P ρ o H).W:=by
 revert hp;cases o<;>first|(intro hp;exact hp.elim)|skip
 all_goals unfold aop
 all_goals try dsimp only
 all_goals try unfold zBW
 all_goals try unfold zeQ
 all_goals try unfold aBox
 all_goals try unfold zc5
 all_goals try unfold zV
 all_goals try unfold zcr
 all_goals try unfold zdX
 all_goals try unfold aNil
 all_goals try unfold aBin
 all_goals try unfold aUn
 all_goals try unfold zdn
 all_goals try unfold za1
 all_goals try unfold zdS
 all_goals try unfold zaH
 all_goals try unfold za3
 all_goals try unfold zaz
 all_goals try unfold zfS
 all_goals try unfold zai
 all_goals try unfold zc4
 all_goals try unfold zbj
 all_goals try unfold zch
 all_goals try unfold aLen
 all_goals try unfold zcO
 all_goals try unfold aMax
 all_goals
  repeat' split
 all_goals first
  |(intro hp;exact hp.elim)
  |(intro _;exact Stat.refl H)
  |(intro _;exact Stat.new H _)
  |(intro _;exact Stat.put (by assumption))
  |(intro _;exact Stat.take (by assumption))
  |(intro hp;exact XR.stat (fun r hr=>by rw [(xEq_h hr).1,(xEq_h hr).2];exact Stat.refl H) hp)
  |(intro hp;exact XR.stat (fun r hr=>zsG hr) hp)
  |(intro hp;exact XR.stat (fun r hr=>by rw [(zhh hr).1,(zhh hr).2];exact Stat.refl H) hp)
  |(intro hp;exact XR.stat (fun r hr=>by rw [(zhi hr).1,(zhi hr).2];exact Stat.refl H) hp)
  |(intro hp;exact XR.stat (fun r hr=>by cases hr;exact Stat.new H _) hp)
  |(intro hp;exact XR.stat (fun r hr=>zl4 hr) hp)
  |(intro hp;exact XR.stat (fun r hr=>zhf hr) hp)
  |(intro hp;exact XR.stat (fun r hr=>ziG hr) hp)
  |(intro hp;exact XR.stat (fun r hr=>zgF hr) hp)
  |(intro hp;exact XR.stat (fun r hr=>zow hr) hp)
  |(intro hp;exact XR.stat (fun r hr=>zoA hr) hp)
  |(intro hp;exact XR.stat (fun r hr=>zwi hr) hp)
  |(intro hp;exact XR.stat (fun r hr=>zsF hr) hp)
  |(intro hp;exact XR.stat (fun r hr=>zoB hr) hp)
  |(intro hp;exact XR.stat (fun r hr=>zhe hr) hp)
  |(intro hp;exact XR.stat (fun r hr=>zl2 hr) hp)
  |(intro hp;exact XR.stat (fun r hr=>zsE hr) hp)
end
end Go.Ab
