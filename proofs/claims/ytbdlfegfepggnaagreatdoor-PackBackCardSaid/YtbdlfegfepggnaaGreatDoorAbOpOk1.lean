/- The operations' soundness, first part: memory. -/
import Derived.Test.YtbdlfegfepggnaaGreatDoorAbOpDef
import Derived.Laws.Unary
import Derived.Laws.Slices
import Derived.Laws.Strings
import Derived.LaidEql
import Derived.MapKept
import Derived.Laws.StructEq
set_option linter.all false
set_option maxHeartbeats 16000000
set_option maxRecDepth 100000
noncomputable section
namespace Go.Ab
def Snd(P:Program)(g:G)(base:Nat)(H:Hp)(D:Nat→Prop)(w:World)(r:AR)(s:Sem Value):Prop:=
 ∃g' w' vc,s.run P w=.ok vc w'∧VRel g' r.v vc∧Post g g' base H r.h D r.W w w'
def SndU(P:Program)(g:G)(base:Nat)(H:Hp)(D:Nat→Prop)(w:World)(r:AR)(s:Sem Unit):Prop:=
 r.v=undefV∧∃g' w',s.run P w=.ok () w'∧Post g g' base H r.h D r.W w w'
section
variable {P:Program}{g:G}{base:Nat}{H:Hp}{D:Nat→Prop}{w:World}
def Snd.val(h:Inv g base H D w){p:Prop}{x:V}{v:Value}(R:ZN){s:Sem Value}(hs:s.run P w=.ok v w)(hx:VRel g x v):Snd P g base H D w ⟨p,x,H,R,[]⟩ s:=
 ⟨g,w,v,hs,hx,Post.refl h rfl rfl ⟨rfl,Yc _⟩ rfl⟩
def zd1 {t:TypeId}{b:Bool}(h:aggT P t=some b)(w:World):(isAgg t).run P w=.ok b w:=by
 unfold aggT at h;cases hu:P.underlying t with
 |none=>simp[hu]at h
 |some d=>simp only[hu]at h;simp only[isAgg,Sem.run_bind,run_underlying hu,Result.andThen_ok];cases d<;>simp at h<;>subst h<;>rfl
def zah {t:TypeId}{n:Nat}(h:zF P t=some n)(w:World):(sizeOf t).run P w=.ok n w:=by
 unfold zF at h;cases hi:P.info? t with
 |none=>simp[hi]at h
 |some i=>simp[hi]at h;subst h;simp[sizeOf,typeInfo,hi]
def za5 {t:TypeId}{z:Value}(h:zaw P t=some z)(w:World):(zeroValue t).run P w=.ok z w:=by
 unfold zaw at h;cases hi:P.info? t with
 |none=>simp[hi]at h
 |some i=>simp[hi]at h;simp[zeroValue,typeInfo,hi,h]
def zde {t e:TypeId}(h:zdv P t=some e):P.underlying t=some (.slice e):=by
 unfold zdv at h;split at h
 ·rename_i e' hu;cases h;exact hu
 cases h
def za6 {t:TypeId}{ag:Bool}{n c o:Nat}{arr:Array Value}{ty:TypeId}{fr:Nat×Nat}{cs:ZA} (ha:aggT P t=some ag) (hn:zF P t=some n) (hh:w.heap[c]? =some (.cells arr ty fr)) (hp:PW g cs (fun i=>arr[o+i]?)) (hpre:zbw ag n cs):∃v,(loadVar t ⟨c,o,none⟩).run P w=.ok v w∧VRel g (zek ag n cs) v:=by
 simp only[loadVar,Sem.run_bind,zd1 ha,Result.andThen_ok];cases ag with
 |true=>
  simp only[zbw,if_true]at hpre;have hl:(cs.take n).length=n:=by simp[hpre.2]
  have hb:o+n≤arr.size:=by have:=(hp.take n).size (fun e=>by rw[e]at hl;simp at hl;omega);rw[hl]at this;exact this
  simp only[if_true,Sem.run_bind,zah hn,Result.andThen_ok,zak hh hb];exact⟨_,rfl,by simpa[zek]using Xj (by simp[hpre.2];omega) ((hp.take n).extract hl)⟩
 |false=>
  simp only[zbw,Y2,if_false]at hpre;simp only[Y2,if_false,run_load,cell_of hh];match cs,hpre,hp with
  |x::cs,_,hp=>
   obtain⟨v,hv,r⟩:=hp 0 x rfl;have hv':arr[o]? =some v:=by simpa using hv
   rw[hv'];exact⟨v,rfl,by simpa[zek]using r⟩
def aLoad_ok(h:Inv g base H D w){t:TypeId}{a:V}{ac:Value}(ha:VRel g a ac)(hp:(zcW P t a H).pre)(hD:∀b∈(zcW P t a H).R,D b):Snd P g base H D w (zcW P t a H) (Instr.loadAt t ac):=by
 unfold zcW at*;split at hp
 ·rename_i ag n cs hag hn;obtain⟨c,o,arr,rfl,hphi,hpw⟩:=ha.inv_fp;obtain⟨ty,fr,hh⟩:=h.frz _ _ hphi;obtain⟨v,hv,hr⟩:=za6 (P:=P) hag hn hh hpw hp;exact Snd.val h _ (by simpa[Instr.loadAt,Instr.sureAddr]using hv) hr
 ·rename_i ag n b off hag hn;split at hp
  ·rename_i cs hg;simp only[hag,hn,hg]at hD ⊢;obtain⟨T,hm,rfl⟩:=ha.inv_ptr;obtain⟨T1,o,m1,p1,h1,r1⟩:=h.cont b _ (hD b Zs) hg;obtain rfl:=ZT hm m1;cases r1 with
   |cells hs hb hpw=>
    rename_i arr ty;have hpw':PW g (cs.drop off) (fun i=>arr[T1.sh+off+i]?):=(hpw.drop off).congr fun i _=>by show _=arr[T1.sh+(off+i)]?;rw[←YO]
    obtain⟨v,hv,hr⟩:=za6 (P:=P) hag hn h1 hpw' hp;exact Snd.val h _ (by simpa[Instr.loadAt,Instr.sureAddr]using hv) hr
  ·rename_i ty cs hg;simp only[hag,hn,hg]at hD ⊢;obtain⟨T,hm,rfl⟩:=ha.inv_ptr;obtain⟨T1,o,m1,p1,h1,r1⟩:=h.cont b _ (hD b Zs) hg;obtain rfl:=ZT hm m1;obtain⟨arr,rfl,hs,hb,hsh,hpw⟩:=r1.ty_row;have hpw':PW g (cs.drop off) (fun i=>arr[T1.sh+off+i]?):=(hpw.drop off).congr fun i _=>by show _=arr[T1.sh+(off+i)]?;rw[←YO]
   obtain⟨v,hv,hr⟩:=za6 (P:=P) hag hn h1 hpw' hp;exact Snd.val h _ (by simpa[Instr.loadAt,Instr.sureAddr]using hv) hr
  ·rename_i cs hg;simp only[hag,hn,hg]at hD ⊢;obtain⟨T,hm,rfl⟩:=ha.inv_ptr;obtain⟨T1,o,m1,p1,h1,r1⟩:=h.cont b _ (hD b Zs) hg;obtain rfl:=ZT hm m1;obtain⟨arr,ty,fr,rfl,hs,hb,hpw⟩:=r1.ro_row;have hpw':PW g (cs.drop off) (fun i=>arr[T1.sh+off+i]?):=(hpw.drop off).congr fun i _=>by show _=arr[T1.sh+(off+i)]?;rw[←YO]
   obtain⟨v,hv,hr⟩:=za6 (P:=P) hag hn h1 hpw' hp;exact Snd.val h _ (by simpa[Instr.loadAt,Instr.sureAddr]using hv) hr
  exact hp.elim
 exact hp.elim
def znE {x:V}(h:zt x=true):x.one=true∨∃l,x=.agg l:=by
 cases x<;>first|exact .inr ⟨_,rfl⟩|exact .inl h
def PW.ones {g:G}{l:ZA}{arr:Array Value}(p:PW g l (fun i=>arr[i]?))(hs:arr.size=l.length)(h:l.all V.one=true):∀v∈arr.toList,v.oneCell'=true:=by
 intro v hv;obtain⟨i,hi,rfl⟩:=Ybs hv;have hi':i<l.length:=by simpa[hs]using hi
 obtain⟨u,hu,r⟩:=p i l[i] (by simp[hi']);have hu':arr[i]? =some u:=hu;have:arr.toList[i]=u:=by
  have h2:i<arr.size:=by simpa using hi
  rw[Y6 h2]at hu';simpa using Option.some.inj hu'
 rw[this];exact r.oneCell (by rw[Yl]at h;exact h _ (Y1 hi'))
def zai {x:V}{v:Value}(hx:VRel g x v)(h:zt x=true):v.cells.size=x.cellsV.length∧PW g x.cellsV (fun i=>v.cells[i]?)∧∀u∈v.cells.toList,u.oneCell'=true:=by
 obtain⟨hs,hp⟩:=hx.cells (znE h);refine⟨hs,hp,hp.ones hs ?_⟩;cases x<;>first|exact h|(simp[zt,V.one]at h;done)|simp[V.cellsV,V.one]
def aBox_ok(h:Inv g base H D w){t:TypeId}{x:V}{xc:Value}(hx:VRel g x xc)(hp:(aBox x H).pre):Snd P g base H D w (aBox x H) (Instr.box t xc):=by obtain⟨hs,hpw,_⟩:=zai hx hp;refine⟨_,w.alloc (.cells xc.cells t),.pointer (some ⟨w.heap.size,0,none⟩),by simp[Instr.box,newVar,newRow],?_,Post.new h (o:=.cells xc.cells t) (tot:=xc.cells.size) rfl rfl ⟨rfl,Yc _⟩ rfl (.cells rfl (by simp[hs]) (by simpa using hpw))⟩;exact .ptr (T:=⟨w.heap.size,0,xc.cells.size⟩) (by simp[G.add])
def zwM(g:G)(v:Value):VRel g (cv1 v) v:=by
 unfold cv1;split<;>first|exact .bool _|exact .int _ _|exact .str rfl|exact .nilP|exact .nilS|exact .nilM|exact .nilF|exact .nilI|exact .any _
def zwL(g:G)(arr:Array Value):PW g (arr.toList.map cv1) (fun i=>arr[i]?):=by
 intro i x hx;rw[YT]at hx;cases e:arr.toList[i]? with
 |none=>rw[e]at hx;cases hx
 |some v=>rw[e]at hx;cases hx;exact⟨v,by show arr[i]? =some v;rw[←YF];exact e,zwM g v⟩
def zdn(g:G)(v:Value):VRel g (cv v) v:=by
 unfold cv;split
 ·exact Xj Zs (zwL g _)
 ·exact Xf Zs (zwL g _)
 exact zwM g _
def zyN(h:Inv g base H D w){t:TypeId}(old:Value)(hp:(zfS P t H).pre):Snd P g base H D w (zfS P t H) (Instr.alloc t true old):=by
 unfold zfS at*;split at hp
 ·rename_i z hz;obtain⟨hs,hpw,_⟩:=zai (zdn g z) hp;have hrel:BlkRel g (rowB (zeP P t) t (cv z).cellsV) ⟨w.heap.size,0,z.cells.size⟩ (.cells z.cells t (0,0)):=by
   cases hst:zeP P t with
   |true=>refine .ty rfl (by simp[hs]) rfl ?_ hpw;have:=(Bool.and_eq_true_iff.1 hst).2;rw[hz]at this;exact Yb2 this
   |false=>exact .cells rfl (by simp[hs]) (by simpa using hpw)
  refine⟨_,w.alloc (.cells z.cells t),.pointer (some ⟨w.heap.size,0,none⟩),by simp[Instr.alloc,za5 hz,newVar,newRow],?_,Post.new h (o:=.cells z.cells t) (tot:=z.cells.size) rfl rfl ⟨rfl,Yc _⟩ rfl hrel⟩;exact .ptr (T:=⟨w.heap.size,0,z.cells.size⟩) (by simp[G.add])
 exact hp.elim
def zbV {cs xs:ZA}{off:Nat}(h:off+xs.length≤cs.length):(putCells cs off xs).length=cs.length:=by
 unfold putCells;split
 ·simp
 simp;omega
def PW.put {cs xs:ZA}{get get':Nat→Option Value}{vs:List Value}{off:Nat}(p:PW g cs get)(q:PW g xs (fun i=>vs[i]?))(hl:vs.length=xs.length) (hb:off+xs.length≤cs.length) (h:∀k,get' k=if off≤k∧k<off+xs.length then vs[k-off]? else get k):PW g (putCells cs off xs) get':=by
 unfold putCells;split
 ·rename_i x;match vs,hl with
  |[v],_=>
   obtain⟨u,hu,r⟩:=q 0 x rfl;have hu':([v]:List Value)[0]? =some u:=hu;simp only[List.getElem?_cons_zero,Yx]at hu';subst hu';refine p.set r ?_ fun i hi=>?_
   ·rw[h,Yi Zs];simp
   rw[h,Ye (by simp;omega)]
 exact p.splice q hl hb h
def zyG(h:Inv g base H D w){t:TypeId}{a x:V}{ac xc:Value}(ha:VRel g a ac)(hx:VRel g x xc)(hp:(zef P t a x H).pre)(hD:∀b∈(zef P t a x H).R,D b):SndU P g base H D w (zef P t a x H) (Instr.storeAt t ac xc):=by
 unfold zef at*;split at hp
 ·rename_i n b off hn;split at hp
  ·rename_i cs hg;obtain⟨hok,hlen,hb⟩:=hp;obtain⟨T,hm,rfl⟩:=ha.inv_ptr;simp only[hn,hg]at hD ⊢;have hDb:=hD b Zs;obtain⟨T1,o,m1,p1,h1,r1⟩:=h.cont b _ hDb hg;obtain rfl:=ZT hm m1;obtain⟨hs,hpw,hones⟩:=zai hx hok;cases r1 with
   |cells hsz hbd hcs=>
    rename_i arr ty;obtain⟨w',arr',hr,hh,hs',hk,honly⟩:=zbk (P:=P) (c:=T1.c) (o:=T1.sh+off) xc.cells.toList 0 w arr h1 hones (by simp[hs,hlen];omega);refine⟨rfl,g,w',?_,Post.put h hDb hg hm hh honly.other honly.size honly.os honly.tape honly.output ?_⟩
    ·simp only[Instr.storeAt,Instr.sureAddr,Sem.run_bind,Sem.run_pure,Result.andThen_ok,storeVar,zah hn];rw[Ye (by rw[hs,hlen];simp)];simpa using hr
    refine .cells (hs'.trans hsz) (by rw[zbV Zo];exact hbd) ?_;refine PW.put hcs (vs:=xc.cells.toList) (by simpa using hpw) (by simpa using hs) Zo fun k=>?_;show arr'[T1.sh+k]? =_;rw[hk];simp only[YS,YX,hs,hlen];by_cases hc:off≤k∧k<off+n
    ·rw[Yi Zo,Yi hc];congr 1;omega
    rw[Ye Zo,Ye hc]
  ·rename_i t' cs hg;obtain⟨hok,hlen,hb⟩:=hp;obtain⟨T,hm,rfl⟩:=ha.inv_ptr;simp only[hn,hg]at hD ⊢;have hDb:=hD b Zs;obtain⟨T1,o,m1,p1,h1,r1⟩:=h.cont b _ hDb hg;obtain rfl:=ZT hm m1;obtain⟨hs,hpw,hones⟩:=zai hx hok;obtain⟨arr,rfl,hsz,hbd,hsh,hcs⟩:=r1.ty_row;obtain⟨w',arr',hr,hh,hs',hk,honly⟩:=zbk (P:=P) (c:=T1.c) (o:=T1.sh+off) xc.cells.toList 0 w arr h1 hones (by simp[hs,hlen];omega);refine⟨rfl,g,w',?_,Post.put h hDb hg hm hh honly.other honly.size honly.os honly.tape honly.output ?_⟩
   ·simp only[Instr.storeAt,Instr.sureAddr,Sem.run_bind,Sem.run_pure,Result.andThen_ok,storeVar,zah hn];rw[Ye (by rw[hs,hlen];simp)];simpa using hr
   refine .ty (hs'.trans hsz) (by rw[zbV Zo];omega) hsh r1.ty_mx ?_;refine PW.put hcs (vs:=xc.cells.toList) (by simpa using hpw) (by simpa using hs) Zo fun k=>?_;show arr'[k]? =_;rw[hk,hsh];simp only[YS,Yae,YX,hs,hlen]
  exact hp.elim
 exact hp.elim
end
end Go.Ab

namespace Go.Ab
section
variable {P:Program}{g:G}{base:Nat}{H:Hp}{D:Nat→Prop}{w:World}
def toList_eq(s:ByteArray):s.toList=s.data.toList:=by
 first|exact ByteArray.toList_eq s|exact s.toList_data|simp
def zcG(s:ByteArray):s.size=s.data.toList.length:=by rw[YX];rfl
def run_equalIn_bool {t:TypeId}(hu:P.underlying t=some .bool)(d:Nat)(a b:Bool):(Op.equalIn (d+1) t (.bool a) (.bool b)).run P w=.ok (a==b) w:=by simp[Op.equalIn,run_underlying hu]
def zqu {t:TypeId}(hu:P.underlying t=some .bool)(a b:Bool):(binOp .eql t (.bool a) (.bool b)).run P w=.ok (.bool (a==b)) w∧(binOp .neq t (.bool a) (.bool b)).run P w=.ok (.bool (!(a==b))) w:=by
 have:=run_equalIn_bool (P:=P) (w:=w) hu 9999 a b;constructor
 ·show ((Op.equalIn (9999+1) t (.bool a) (.bool b)) >>= fun r=>Pure.pure (Value.bool r)).run P w=_;rw[Sem.run_bind,this];rfl
 show ((Op.equalIn (9999+1) t (.bool a) (.bool b)) >>= fun r=>Pure.pure (Value.bool (!r))).run P w=_;rw[Sem.run_bind,this];rfl
def bin_int {op:BinOp}{t:TypeId}{k k':IntKind}{a b:Int}(hp:(aBin P op t (.int k a) (.int k' b) H).pre):∃v,(binOp op t (.int k a) (.int k' b)).run P w=.ok v w∧VRel g (aBin P op t (.int k a) (.int k' b) H).v v∧(aBin P op t (.int k a) (.int k' b) H).h=H∧(aBin P op t (.int k a) (.int k' b) H).W=[]:=by
 cases op<;>simp only[aBin]at hp ⊢
 case shl=>exact⟨_,by rw[binOp_shl,shift_shl _ _ _ _ hp.1 hp.2];rfl,.int _ _,trivial,trivial⟩
 case shr=>exact⟨_,by rw[binOp_shr,shift_shr _ _ _ _ hp.1 hp.2];rfl,.int _ _,trivial,trivial⟩
 case quo=>obtain⟨rfl,hb⟩:=hp;exact⟨_,by rw[binOp_quo,Op.intDiv,Ye hb];rfl,.int _ _,trivial,trivial⟩
 case rem=>obtain⟨rfl,hb⟩:=hp;exact⟨_,by rw[binOp_rem,Op.intDiv,Ye hb];rfl,.int _ _,trivial,trivial⟩
 case add=>obtain rfl:=hp;exact⟨_,by rw[binOp_add];rfl,.int _ _,trivial,trivial⟩
 case sub=>obtain rfl:=hp;exact⟨_,by rw[binOp_sub];rfl,.int _ _,trivial,trivial⟩
 case mul=>obtain rfl:=hp;exact⟨_,by rw[binOp_mul];rfl,.int _ _,trivial,trivial⟩
 case and=>obtain rfl:=hp;exact⟨_,by rw[binOp_and];rfl,.int _ _,trivial,trivial⟩
 case or=>obtain rfl:=hp;exact⟨_,by rw[binOp_or];rfl,.int _ _,trivial,trivial⟩
 case xor=>obtain rfl:=hp;exact⟨_,by rw[binOp_xor];rfl,.int _ _,trivial,trivial⟩
 case andNot=>obtain rfl:=hp;exact⟨_,by rw[binOp_andNot];rfl,.int _ _,trivial,trivial⟩
 case eql=>obtain rfl:=hp;exact⟨_,by rw[binOp_eql];rfl,.bool _,trivial,trivial⟩
 case neq=>obtain rfl:=hp;exact⟨_,by rw[binOp_neq];rfl,.bool _,trivial,trivial⟩
 case lss=>obtain rfl:=hp;exact⟨_,by rw[binOp_lss];rfl,.bool _,trivial,trivial⟩
 case leq=>obtain rfl:=hp;exact⟨_,by rw[binOp_leq];rfl,.bool _,trivial,trivial⟩
 case gtr=>obtain rfl:=hp;exact⟨_,by rw[binOp_gtr];rfl,.bool _,trivial,trivial⟩
 case geq=>obtain rfl:=hp;exact⟨_,by rw[binOp_geq];rfl,.bool _,trivial,trivial⟩
def bin_str {op:BinOp}{t:TypeId}{a b:ZL}{s r:ByteArray}(ha:s.data.toList=a)(hb:r.data.toList=b)(hp:(aBin P op t (.str a) (.str b) H).pre):∃v,(binOp op t (.string s) (.string r)).run P w=.ok v w∧VRel g (aBin P op t (.str a) (.str b) H).v v∧(aBin P op t (.str a) (.str b) H).h=H∧(aBin P op t (.str a) (.str b) H).W=[]:=by
 subst ha hb;have hb:binOp op t (.string s) (.string r)=Op.stringOp op s r:=by cases op<;>rfl
 rw[hb];cases op<;>simp only[aBin]at hp ⊢<;>try exact hp.elim
 case add=>
  refine⟨.string (s++r),?_,.str Zs,trivial,trivial⟩
  simp only[Op.stringOp,IntKind.max_i64]
  rw[Ye]
  ·rfl
  ·have:=zcG s;have:=zcG r;omega
 all_goals
  simp only[Op.stringOp,toList_eq]
  exact⟨_,rfl,.bool _,rfl,rfl⟩
def zdR {a b:ByteArray}:(a==b)=(a.data.toList==b.data.toList):=by obtain⟨a⟩:=a;obtain⟨b⟩:=b;rw[Ybn,MapKept.bytes_beq];simp
def zj8 {t:TypeId}{x y:V}{xc yc:Value}{b:Bool}(hx:VRel g x xc)(hy:VRel g y yc)(ht:zdJ P t x=true)(h:zcM x y=some b):(∀d:Nat,(Op.equalIn (d+1) t xc yc).run P w=.ok b w)∧(b=true→xc=yc):=by
 unfold zdJ at ht;split at ht
 ·rename_i hu;obtain rfl:=hx.inv_int;cases y<;>simp only[zcM]at h<;>first|(cases h;done)|skip
  obtain rfl:=hy.inv_int;split at h
  ·rename_i hd;have hd':=Yah hd;subst hd';cases h;exact⟨fun d=>by simp[Op.equalIn,run_underlying hu],fun e=>by simp at e;rw[e]⟩
  cases h
 ·rename_i hu;obtain⟨s,rfl,e1⟩:=hx.inv_str;cases y<;>simp only[zcM]at h<;>first|(cases h;done)|skip
  obtain⟨s2,rfl,e2⟩:=hy.inv_str;cases h;refine⟨fun d=>?_,fun e=>?_⟩
  ·have h0:(Op.equalIn (d+1) t (.string s) (.string s2)).run P w=.ok (s==s2) w:=by simp[Op.equalIn,run_underlying hu]
   rw[h0,zdR,e1,e2]
  have:s=s2:=by apply ByteArray.ext;exact YbK.1 (by rw[e1,e2];simpa using e)
  rw[this]
 ·rename_i hu;obtain rfl:=hx.inv_bool;cases y<;>simp only[zcM]at h<;>first|(cases h;done)|skip
  obtain rfl:=hy.inv_bool;cases h;exact⟨fun d=>by simp[Op.equalIn,run_underlying hu],fun e=>by simp at e;rw[e]⟩
 cases ht
def ziM {f:Field}{r:List Field}{i:Nat}(h:zoc P (f::r) i=true):f.name≠ "_" ∧f.offset=i∧aggT P f.type=some false∧zoc P r (i+1)=true:=by
 unfold zoc at h;simp only[Yj,bne_iff_ne,ne_eq,Ycl]at h;obtain⟨⟨⟨⟨h1,h2⟩,h3⟩,_⟩,h5⟩:=h;refine⟨h1,h2,?_,h5⟩;unfold plainT at h3;unfold aggT;split at h3
 ·rename_i hu;rw[hu]
 ·rename_i hu;rw[hu]
 ·rename_i hu;rw[hu]
 cases h3
def zjM {t:TypeId}{xs:Array Value}{i:Nat}{v:Value}(ha:aggT P t=some false)(hv:xs[i]? =some v):(part t xs i).run P w=.ok v w:=by simp[part,zd1 ha,hv]
def zhx {xs ys:Array Value}(d:Nat):∀(fs:List Field)(i:Nat)(cs ds:ZA)(b:Bool),zoc P fs i=true→zeZ P fs cs=true→zfM cs ds=some b→PW g cs (fun j=>xs[i+j]?)→PW g ds (fun j=>ys[i+j]?)→(Op.eqFields (d+1) xs ys fs).run P w=.ok b w∧(b=true→ds.length=cs.length∧∀j,j<cs.length→xs[i+j]? =ys[i+j]?)
 |[],i,cs,ds,b,_,hk,h,_,_=>by
  cases cs with
  |cons=>cases hk
  |nil=>
   cases ds with
   |cons=>cases h
   |nil=>cases h;exact⟨rfl,fun _=>⟨rfl,fun j hj=>by simp at hj⟩⟩
 |f::fs,i,cs,ds,b,hf,hk,h,px,py=>by
  cases cs with
  |nil=>cases hk
  |cons x cs=>
   cases ds with
   |nil=>cases h
   |cons y ds=>
    obtain⟨h1,h2,h3,h4⟩:=ziM hf;simp only[zeZ,Yj]at hk;obtain⟨vx,ex,rx⟩:=px 0 x rfl;obtain⟨vy,ey,ry⟩:=py 0 y rfl;have ex':xs[f.offset]? =some vx:=by rw[h2];simpa using ex
    have ey':ys[f.offset]? =some vy:=by rw[h2];simpa using ey
    have px':PW g cs (fun j=>xs[(i+1)+j]?):=(px.drop 1).congr fun j _=>by show _=xs[i+(1+j)]?;rw[YO]
    have py':PW g ds (fun j=>ys[(i+1)+j]?):=(py.drop 1).congr fun j _=>by show _=ys[i+(1+j)]?;rw[YO]
    have run0:(Op.eqFields (d+1) xs ys (f::fs)).run P w=((Op.equalIn (d+1) f.type vx vy).run P w).andThen fun r w'=>if (!r)=true then .ok false w' else(Op.eqFields (d+1) xs ys fs).run P w':=by simp only[Op.eqFields];rw[Yi h1];simp only[Sem.run_bind,zjM h3 ex',zjM h3 ey',Result.andThen_ok,Sem.run_ite,Sem.run_pure]
    unfold zfM at h;split at h
    ·rename_i hq;obtain⟨q1,q2⟩:=zj8 (w:=w) rx ry hk.1 hq;obtain⟨i1,i2⟩:=zhx d fs (i+1) cs ds b h4 hk.2 h px' py';refine⟨by rw[run0,q1];simpa using i1,fun e=>⟨by simp[(i2 e).1],fun j hj=>?_⟩⟩;cases j with
     |zero=>have:=q2 rfl;rw[h2]at ex' ey';rw[YS,ex',ey',this]
     |succ j=>have:=(i2 e).2 j (by simpa using hj);rw[show i+(j+1)=i+1+j by omega];exact this
    ·rename_i hq;cases h;obtain⟨q1,_⟩:=zj8 (w:=w) rx ry hk.1 hq;exact⟨by rw[run0,q1];rfl,fun e=>by cases e⟩
    cases h
def zdK {t:TypeId}{fs:List Field}(h:zwp P t=some fs):P.underlying t=some (.struct (P.fieldsOf t))∧(P.fieldsOf t).toList=fs∧zoc P fs 0=true∧P.stoodInHeld t=false∧P.eqGuardType P.depth t=false:=by
 unfold zwp at h;split at h
 ·rename_i fs' hu;split at h
  ·rename_i hc;cases h;simp only[Yj,YaV]at hc;have e:P.fieldsOf t=fs':=by simp[Program.fieldsOf,hu]
   exact⟨by rw[e];exact hu,by rw[e],hc.1.1,hc.1.2,hc.2⟩
  cases h
 cases h
def zk6 {t:TypeId}{fs:List Field}{cs ds:ZA}{xc yc:Value}{b:Bool}(hf:zwp P t=some fs)(hx:VRel g (.agg cs) xc)(hy:VRel g (.agg ds) yc)(hk:zeZ P fs cs=true)(h:zfM cs ds=some b):(∀d:Nat,(Op.equalIn (d+2) t xc yc).run P w=.ok b w)∧(b=true→xc=yc):=by
 obtain⟨xs,rfl,sx,px⟩:=hx.inv_agg;obtain⟨ys,rfl,sy,py⟩:=hy.inv_agg;obtain⟨hu,hfs,hff,hst,_⟩:=zdK hf;have key:=fun d=>zhx (w:=w) d fs 0 cs ds b hff hk h (px.congr fun j _=>by rw[Yae]) (py.congr fun j _=>by rw[Yae]);refine⟨fun d=>?_,fun e=>?_⟩
 ·rw[show d+2=(d+1)+1 from rfl,run_equalIn_struct w (d+1) t xs ys hu hst,hfs];exact(key d).1
 obtain⟨e1,e2⟩:=(key 0).2 e;have:xs=ys:=by
  apply Yao;intro j;by_cases hj:j<cs.length
  ·have:=e2 j hj;simpa using this
  rw[Yr Zo,Yr Zo]
 rw[this]
def eqV_ok {t:TypeId}{x y:V}{xc yc:Value}{b:Bool}(ox oy:Operand)(hx:VRel g x xc)(hy:VRel g y yc)(h:eqV P t x y=some b):((do eqGuard .eql t ox oy xc yc;binOp .eql t xc yc):Sem Value).run P w=.ok (.bool b) w∧((do eqGuard .neq t ox oy xc yc;binOp .neq t xc yc):Sem Value).run P w=.ok (.bool (!b)) w:=by
 have fin2:(Op.equal t xc yc).run P w=.ok b w→(∀op,(eqGuard op t ox oy xc yc).run P w=.ok () w)→binOp .eql t xc yc=(do pure (.bool (←Op.equal t xc yc)))→
  binOp .neq t xc yc=(do pure (.bool (!(←Op.equal t xc yc))))→((do eqGuard .eql t ox oy xc yc;binOp .eql t xc yc):Sem Value).run P w=.ok (.bool b) w∧((do eqGuard .neq t ox oy xc yc;binOp .neq t xc yc):Sem Value).run P w=.ok (.bool (!b)) w:=by
  intro h1 h2 h3 h4
  rw[h3,h4]
  constructor<;>simp[h2,h1]
 have fin:(∀d:Nat,(Op.equalIn (d+1) t xc yc).run P w=.ok b w)→(∀op,(eqGuard op t ox oy xc yc).run P w=.ok () w)→binOp .eql t xc yc=(do pure (.bool (←Op.equal t xc yc)))→
  binOp .neq t xc yc=(do pure (.bool (!(←Op.equal t xc yc))))→((do eqGuard .eql t ox oy xc yc;binOp .eql t xc yc):Sem Value).run P w=.ok (.bool b) w∧((do eqGuard .neq t ox oy xc yc;binOp .neq t xc yc):Sem Value).run P w=.ok (.bool (!b)) w:=
  fun h1 h2 h3 h4=>fin2 (h1 9999) h2 h3 h4
 unfold eqV at h;split at h
 case h_6 u b1 o1 b2 o2 hu=>
  split at h
  ·rename_i n hb hn;cases h;simp only[Yj,Ycl]at hb;obtain⟨rfl,rfl⟩:=hb;obtain⟨T,hm,rfl⟩:=hx.inv_ptr;obtain⟨T',hm',rfl⟩:=hy.inv_ptr;obtain rfl:T'=T:=by rw[hm]at hm';exact(Yh hm').symm
   obtain⟨i,hi,_⟩:∃i,P.info? u=some i∧i.size=n:=by
    unfold zF at hn;cases hi:P.info? u with
    |none=>simp[hi]at hn
    |some i=>exact⟨i,rfl,by simpa[hi]using hn⟩
   have h9:∀d:Nat,(Op.equalIn (d+1) t (.pointer (some ⟨T'.c,T'.sh+o1,none⟩)) (.pointer (some ⟨T'.c,T'.sh+o1,none⟩))).run P w=.ok true w:=fun d=>by simp[Op.equalIn,run_underlying hu,sizeOf,typeInfo,hi,run_sameAddr_same]
   refine fin h9 (fun op=>?_) rfl rfl;unfold eqGuard;cases op<;>rfl
  ·cases h
 case h_20 fs0 cs ds hu=>
  split at h
  rotate_left;·cases h
  rename_i hk
  simp only[Yj]at hk
  have hk1:=hk.1
  unfold keyT at hk1
  simp only at hk1
  split at hk1
  rotate_left;·cases hk1
  rename_i fs hf
  obtain⟨_,_,_,_,hg⟩:=zdK hf
  have hs:=(zk6 (w:=w) hf hx hy hk1 h).1 9998
  obtain⟨xs,rfl,_⟩:=hx.inv_agg
  obtain⟨ys,rfl,_⟩:=hy.inv_agg
  refine fin2 hs (fun op=>?_) rfl rfl
  exact run_eqGuard_agg w op t ox oy xs ys hg
 all_goals first|(cases h;done)|skip
 all_goals
  rename_i hu
  cases h
  cases hx
  cases hy
  refine fin (fun d=>?_) (fun op=>?_) rfl rfl
  ·simp[Op.equalIn,run_underlying hu]
  ·unfold eqGuard;cases op<;>rfl
def xEq_ok(h:Inv g base H D w){op:BinOp}{t:TypeId}{x y:V}{xc yc:Value}(ox oy:Operand)(hx:VRel g x xc)(hy:VRel g y yc)(hp:(XR.ar H (xEq P op t x y H)).pre):Snd P g base H D w (XR.ar H (xEq P op t x y H)) (do eqGuard op t ox oy xc yc;binOp op t xc yc):=by
 cases hq:xEq P op t x y H with
 |none=>rw[hq]at hp;exact hp.elim
 |some q=>
  unfold xEq at hq;split at hq
  ·rename_i b hb;cases hq;exact Snd.val h _ (eqV_ok ox oy hx hy hb).1 (.bool _)
  ·rename_i b hb;cases hq;exact Snd.val h _ (eqV_ok ox oy hx hy hb).2 (.bool _)
  cases hq
def aBin_ok(h:Inv g base H D w){op:BinOp}{t:TypeId}{x y:V}{xc yc:Value}(ox oy:Operand)(hx:VRel g x xc)(hy:VRel g y yc)(hp:(aBin P op t x y H).pre):Snd P g base H D w (aBin P op t x y H) (do eqGuard op t ox oy xc yc;binOp op t xc yc):=by
 have key:∀ {v},(eqGuard op t ox oy xc yc).run P w=.ok () w→(binOp op t xc yc).run P w=.ok v w→VRel g (aBin P op t x y H).v v→(aBin P op t x y H).h=H→(aBin P op t x y H).W=[]→
  Snd P g base H D w (aBin P op t x y H) (do eqGuard op t ox oy xc yc;binOp op t xc yc):=by
  intro v h0 h1 h2 h3 h4
  refine⟨g,w,v,by simp only[Sem.run_bind,h0,Result.andThen_ok,h1],h2,?_⟩
  rw[h3,h4]
  exact Post.refl h rfl rfl ⟨rfl,Yc _⟩ rfl
 have dflt:aBin P op t x y H=XR.ar H (xEq P op t x y H)→Snd P g base H D w (aBin P op t x y H) (do eqGuard op t ox oy xc yc;binOp op t xc yc):=fun e=>by rw[e]at hp ⊢;exact xEq_ok h ox oy hx hy hp
 cases hx with
 |int k n=>
  cases hy with
  |int k' n'=>obtain⟨v,h1,h2,h3,h4⟩:=bin_int (g:=g) (w:=w) hp;exact key (by rw[eqGuard_at_int];rfl) h1 h2 h3 h4
  |_=>exact dflt rfl
 |str ha=>
  cases hy with
  |str hb=>obtain⟨v,h1,h2,h3,h4⟩:=bin_str (g:=g) (w:=w) ha hb hp;exact key (by rw[eqGuard_at_string];rfl) h1 h2 h3 h4
  |_=>exact dflt rfl
 |bool b=>
  cases hy with
  |bool b'=>
   have hk:∀v,(binOp op t (.bool b) (.bool b')).run P w=.ok v w→VRel g (aBin P op t (.bool b) (.bool b') H).v v→(aBin P op t (.bool b) (.bool b') H).h=H→(aBin P op t (.bool b) (.bool b') H).W=[]→_:=
    fun v h1 h2 h3 h4=>key (v:=v) (by rw[eqGuard_at_bool];rfl) h1 h2 h3 h4
   unfold aBin at hp;dsimp only at hp;split at hp
   ·rename_i hu;exact hk _ (zqu hu b b').1 (by unfold aBin;simp only[hu];exact .bool _) (by unfold aBin;simp only[hu];rfl) (by unfold aBin;simp only[hu];rfl)
   ·rename_i hu;exact hk _ (zqu hu b b').2 (by unfold aBin;simp only[hu];exact .bool _) (by unfold aBin;simp only[hu];rfl) (by unfold aBin;simp only[hu];rfl)
   exact hp.elim
  |_=>exact dflt rfl
 |_=>exact dflt rfl
def aUn_ok(h:Inv g base H D w){op:UnOp}{x:V}{xc:Value}(hx:VRel g x xc)(hp:(aUn op x H).pre):Snd P g base H D w (aUn op x H) (Op.unary op xc):=by
 cases op<;>cases hx<;>first
  |exact hp.elim
  |exact Snd.val h _ rfl (.int _ _)
  |exact Snd.val h _ rfl (.bool _)
def zyL(h:Inv g base H D w){t:TypeId}{x:V}{f:Nat}{xc:Value}(hx:VRel g x xc)(hp:(zhJ P t x f H).pre):Snd P g base H D w (zhJ P t x f H) (Instr.field t xc f):=by
 unfold zhJ at*;split at hp
 ·rename_i fs cs hu;split at hp
  ·rename_i fd hf;split at hp
   ·rename_i ag n ha hn;obtain⟨arr,rfl,hs,hpw⟩:=hx.inv_agg;have hpw':PW g (cs.drop fd.offset) (fun i=>arr[fd.offset+i]?):=hpw.drop fd.offset;cases ag with
    |true=>
     obtain⟨h0,h1⟩:n≠0∧n≤(cs.drop fd.offset).length:=hp;have hl:((cs.drop fd.offset).take n).length=n:=by simp at h1 ⊢;omega
     refine Snd.val h _ (v:=.agg (arr.extract fd.offset (fd.offset+n))) ?_ ?_
     ·simp[Instr.field,run_underlying hu,hf,part,zd1 ha,zah hn,asAgg]
     have hb:fd.offset+n≤arr.size:=by simp at h1;omega
     exact Xj (by rw[Array.size_extract,hl];omega) ((hpw'.take n).extract hl)
    |false=>
     have h0:cs.drop fd.offset≠[]:=hp;match e:cs.drop fd.offset,h0,hpw' with
     |y::r,_,hpw'=>
      obtain⟨v,hv,hr⟩:=hpw' 0 y rfl;have hv':arr[fd.offset]? =some v:=by simpa using hv
      refine Snd.val h _ (v:=v) ?_ (by simpa[zek]using hr);simp[Instr.field,run_underlying hu,hf,part,zd1 ha,asAgg,hv']
   exact hp.elim
  exact hp.elim
 exact hp.elim
def zkO(h:Inv g base H D w){t:TypeId}{x:V}{f:Nat}{xc:Value}(hx:VRel g x xc)(hp:(zaB P t x f H).pre):Snd P g base H D w (zaB P t x f H) (Instr.fieldAt t xc f):=by
 unfold zaB at*;split at hp
 ·rename_i fs hu;split at hp
  ·rename_i fd hf;split at hp
   ·rename_i n b off hn;obtain⟨T,hm,rfl⟩:=hx.inv_ptr;refine Snd.val h _ (v:=.pointer (some ⟨T.c,T.sh+(off+fd.offset),none⟩)) ?_ (.ptr hm);simp[Instr.fieldAt,run_underlying hu,hf,Instr.sureAddr,fieldPlace,zah hn,za1,YO]
   ·rename_i n cs hn;obtain⟨c,o,arr,rfl,hphi,hpw⟩:=hx.inv_fp;refine Snd.val h _ (v:=.pointer (some ⟨c,o+fd.offset,none⟩)) ?_ (VRel.mk_fp hphi ((hpw.drop fd.offset).congr fun i _=>by show _=arr[o+(fd.offset+i)]?;rw[←YO]));simp[Instr.fieldAt,run_underlying hu,hf,Instr.sureAddr,fieldPlace,zah hn,za1]
   exact hp.elim
  exact hp.elim
 exact hp.elim
def zkN(h:Inv g base H D w){t:TypeId}{x i:V}{xc ic:Value}(hx:VRel g x xc)(hi:VRel g i ic)(hp:(zaa P t x i H).pre):Snd P g base H D w (zaa P t x i H) (Instr.indexAt t xc ic):=by
 unfold zaa at*;split at hp
 ·rename_i e k n hu;obtain rfl:=hi.inv_int;split at hp
  ·rename_i sz b off len sz' kc hn;obtain⟨rfl,h0,h1⟩:=hp;obtain⟨T,o,cap,hm,hl,ho,hk,rfl⟩:=hx.inv_sl;have hc:cap≠0:=Zo;obtain⟨rfl,hb⟩:=ho hc;refine Snd.val h _ (v:=.pointer (some ⟨T.c,T.sh+(off+n.toNat*sz'),none⟩)) ?_ (.ptr hm);simp[Instr.indexAt,asIntOf,run_underlying hu,h0,h1,zah hn,za1,YO]
  ·rename_i sz cs len hn;obtain⟨h0,h1⟩:=hp;obtain⟨a,cap,rfl,hl,hcase⟩:=hx.inv_fs;rcases hcase with⟨rfl,rfl,_⟩|⟨c,o,arr,rfl,hphi,hpw⟩
   ·omega
   refine Snd.val h _ (v:=.pointer (some ⟨c,o+n.toNat*sz,none⟩)) ?_ (VRel.mk_fp hphi ((hpw.drop (n.toNat*sz)).congr fun i _=>by show _=arr[o+(n.toNat*sz+i)]?;rw[←YO]));simp[Instr.indexAt,asIntOf,run_underlying hu,h0,h1,zah hn,za1]
  exact hp.elim
 ·rename_i len e k n hu;obtain rfl:=hi.inv_int;split at hp
  ·rename_i sz b off hn;obtain⟨h0,h1⟩:=hp;obtain⟨T,hm,rfl⟩:=hx.inv_ptr;refine Snd.val h _ (v:=.pointer (some ⟨T.c,T.sh+(off+n.toNat*sz),none⟩)) ?_ (.ptr hm);simp[Instr.indexAt,asIntOf,run_underlying hu,Instr.sureAddr,h0,h1,zah hn,za1,YO]
  ·rename_i sz cs hn;obtain⟨h0,h1⟩:=hp;obtain⟨c,o,arr,rfl,hphi,hpw⟩:=hx.inv_fp;refine Snd.val h _ (v:=.pointer (some ⟨c,o+n.toNat*sz,none⟩)) ?_ (VRel.mk_fp hphi ((hpw.drop (n.toNat*sz)).congr fun i _=>by show _=arr[o+(n.toNat*sz+i)]?;rw[←YO]));simp[Instr.indexAt,asIntOf,run_underlying hu,Instr.sureAddr,h0,h1,zah hn,za1]
  exact hp.elim
 exact hp.elim
def rdOK_ok {ag:Bool}{n:Nat}{cs:ZA}(h:rdOK ag n cs=true):zbw ag n cs:=by
 cases ag with
 |true=>simp only[rdOK,Yj,YaV,Nat.ble_eq]at h;refine⟨fun e=>?_,h.2⟩;rw[e]at h;cases h.1
 |false=>simpa[rdOK,zbw]using h
def run_part {t:TypeId}{ag:Bool}{n off:Nat}{cs:ZA}{arr:Array Value}(ha:aggT P t=some ag)(hn:zF P t=some n)(hs:arr.size=cs.length)(hpw:PW g cs (fun i=>arr[i]?))(hp:zbw ag n (cs.drop off)):∃v,(part t arr off).run P w=.ok v w∧VRel g (zek ag n (cs.drop off)) v:=by
 have hpw':PW g (cs.drop off) (fun i=>arr[off+i]?):=hpw.drop off;cases ag with
 |true=>
  obtain⟨h0,h1⟩:n≠0∧n≤(cs.drop off).length:=hp;have hl:((cs.drop off).take n).length=n:=by simp at h1 ⊢;omega
  refine⟨.agg (arr.extract off (off+n)),by simp[part,zd1 ha,zah hn],?_⟩;have hb:off+n≤arr.size:=by simp at h1;omega
  exact Xj (by rw[Array.size_extract,hl];omega) ((hpw'.take n).extract hl)
 |false=>
  have h0:cs.drop off≠[]:=hp;match e:cs.drop off,h0,hpw' with
  |y::r,_,hpw'=>
   obtain⟨v,hv,hr⟩:=hpw' 0 y rfl;have hv':arr[off]? =some v:=by simpa using hv
   exact⟨v,by simp[part,zd1 ha,hv'],by simpa[zek]using hr⟩
def zqL(h:Inv g base H D w){t:TypeId}{x i:V}{xc ic:Value}(hx:VRel g x xc)(hi:VRel g i ic)(hp:(XR.ar H (zc1 P t x i H)).pre):Snd P g base H D w (XR.ar H (zc1 P t x i H)) (Instr.index t xc ic):=by
 cases hq:zc1 P t x i H with
 |none=>rw[hq]at hp;exact hp.elim
 |some q=>
  unfold zc1 at hq;split at hq;rotate_left;·cases hq
  rename_i len e cs k n hu;split at hq;rotate_left;·cases hq
  rename_i ag sz ha hn;split at hq;rotate_left;·cases hq
  rename_i hc;cases hq;simp only[Yj,Yn]at hc;obtain⟨⟨h0,h1⟩,h2⟩:=hc;obtain rfl:=hi.inv_int;obtain⟨arr,rfl,hs,hpw⟩:=hx.inv_agg;obtain⟨v,hv,hr⟩:=run_part (P:=P) (w:=w) ha hn hs hpw (rdOK_ok h2);refine Snd.val h _ (v:=v) ?_ hr;simp[Instr.index,asIntOf,run_underlying hu,h0,h1,zah hn,hv]
def zyK(h:Inv g base H D w){t:TypeId}{x i:V}{xc ic:Value}(hx:VRel g x xc)(hi:VRel g i ic)(hp:(zb0 P t x i H).pre):Snd P g base H D w (zb0 P t x i H) (Instr.index t xc ic):=by
 unfold zb0 at*;split at hp
 ·rename_i s k n hu;obtain rfl:=hi.inv_int;obtain⟨sb,rfl,rfl⟩:=hx.inv_str;obtain⟨h0,h1⟩:=hp;have hsz:sb.size=sb.data.toList.length:=zcG _;have hlt:n.toNat<sb.size:=Zo;refine Snd.val h _ (v:=.int .u8 (sb[n.toNat].toNat:Int)) ?_ ?_
  ·simp[Instr.index,asIntOf,run_underlying hu,h0,hlt]
  have:sb.data.toList.getD n.toNat 0=sb[n.toNat]:=by rw[Ya,Yb Zo];simp;rfl
  rw[this];exact .int _ _
 exact zqL h hx hi hp
def zoQ(h:Inv g base H D w){x:V}{i:Nat}{xc:Value}(hx:VRel g x xc)(hp:(zbn x i H).pre):Snd P g base H D w (zbn x i H) (Instr.extract xc i):=by
 unfold zbn at*;split at hp
 ·rename_i vs;split at hp
  ·rename_i v hv;obtain⟨arr,rfl,hs,hpw⟩:=hx.inv_tup;obtain⟨u,hu,r⟩:=hpw i v hv;have hu':arr[i]? =some u:=hu;exact Snd.val h _ (by simp[Instr.extract,hu']) r
  exact hp.elim
 exact hp.elim
def aLen_ok(h:Inv g base H D w){t ty:TypeId}{ts:Array TypeId}(ht:ts[0]? =some t){x:V}{xc:Value}(hx:VRel g x xc)(hp:(aLen P t x H).pre)(hD:∀b∈(aLen P t x H).R,D b):Snd P g base H D w (aLen P t x H) (Builtin.len_ ts ty #[xc]):=by
 unfold aLen at*;split at hp
 ·rename_i s hu;obtain⟨sb,rfl,rfl⟩:=hx.inv_str;have hsz:sb.size=sb.data.toList.length:=zcG _;refine Snd.val h _ (v:=goInt sb.size) (by simp[Builtin.len_,ht,run_underlying hu]) ?_;rw[goInt,hsz];exact .int _ _
 ·rename_i e hu;cases hx;exact Snd.val h _ (by simp[Builtin.len_,ht,run_underlying hu,goInt]) (.int _ _)
 ·rename_i e cs n hu;obtain⟨a,cap,rfl,_,_⟩:=hx.inv_fs;exact Snd.val h _ (by simp[Builtin.len_,ht,run_underlying hu,goInt]) (.int _ _)
 ·rename_i e b off n sz kc hu;obtain⟨T,o,cap,_,_,_,_,rfl⟩:=hx.inv_sl;exact Snd.val h _ (by simp[Builtin.len_,ht,run_underlying hu,goInt]) (.int _ _)
 ·rename_i k e hu;cases hx;exact Snd.val h _ (by simp[Builtin.len_,ht,run_underlying hu,goInt]) (.int _ _)
 ·rename_i k e b hu;split at hp
  ·rename_i es clock hg;cases hx with
   |map hm=>
    rename_i T;obtain⟨T1,o,m1,p1,h1,r1⟩:=h.cont b _ (hD b (by simp[hu,hg])) hg;obtain rfl:=ZT hm m1;cases r1 with
    |mp hs _ _ _=>refine Snd.val h _ (v:=.int .i64 es.length) ?_ (.int _ _);simp[Builtin.len_,ht,run_underlying hu,goInt,getObj,Sem.run,h1,hs]
  exact hp.elim
 exact hp.elim
end
end Go.Ab
