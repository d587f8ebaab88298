/- The operations' soundness, fifth part: append and copy. -/
import Derived.Test.YtbdlfegfepggnaaGreatDoorAbOpOk3
set_option linter.all false
set_option maxHeartbeats 16000000
set_option maxRecDepth 100000
noncomputable section
namespace Go.Ab
section
variable {P:Program}{g:G}{base:Nat}{H:Hp}{D:Nat→Prop}{w:World}
def SrcT(P:Program)(xT:TypeId):Prop:=P.underlying xT=some .string∨∃e,P.underlying xT=some (.slice e)
def run_append_room' {sT xT ty e:TypeId}{i:TypeInfo}{bs:Option Addr}{sLen sCap n:Nat}{xc:Value}{news:Array Value}(ht:P.underlying sT=some (.slice e))(hi:P.info? e=some i) (hd:SrcT P xT) (hlen:(Builtin.lenOf xc).run P w=.ok n w) (hnew:(Builtin.firstCells i.size n xc).run P w=.ok news w) (hr:sLen+n≤sCap):(Builtin.append_ #[sT,xT] ty #[.slice bs sLen sCap,xc]).run P w=
  match bs with
  |some a=>((storeCells (a.add (sLen*i.size)) news.toList).run P w).andThen fun _ w'=>.ok (.slice bs (sLen+n) sCap) w'
  |none=>.ok (.slice bs (sLen+n) sCap) w:=by
 rcases hd with hd|⟨e',hd⟩<;>cases bs<;>simp[Builtin.append_,run_underlying ht,run_underlying hd,sizeOf,typeInfo,hi,hlen,hnew,hr]
def run_append_grow' {sT xT ty e:TypeId}{i:TypeInfo}{z:Value}{bs:Option Addr}{sLen sCap n:Nat}{xc:Value}{olds news:Array Value}(ht:P.underlying sT=some (.slice e))(hi:P.info? e=some i)(hz:i.zero=some z) (hd:SrcT P xT) (hlen:(Builtin.lenOf xc).run P w=.ok n w) (hnew:(Builtin.firstCells i.size n xc).run P w.drew=.ok news w.drew) (hold:(Builtin.firstCells i.size sLen (.slice bs sLen sCap)).run P w.drew=.ok olds w.drew) (hr:¬sLen+n≤sCap) (h63:sLen+n≤4611686018427387904) (hfit:(sLen+n)*i.bytes≤140737488355328):(Builtin.append_ #[sT,xT] ty #[.slice bs sLen sCap,xc]).run P w=.ok (.slice (some ⟨w.heap.size,0,none⟩) (sLen+n) (grownCap w (sLen+n) sCap e)) (w.drew.alloc (.cells (olds++news++Builtin.zeroCells z.cells (grownCap w (sLen+n) sCap e-(sLen+n))) e)):=by
 have h63':¬(9223372036854775807<((sLen:Int)+(n:Int))):=Zo;have h48':¬(281474976710656<Builtin.nextslicecap (sLen+n) sCap*i.bytes):=by have:=growslice_fits (need:=sLen+n) (old:=sCap) (bytes:=i.bytes) Zo hfit;omega
 rcases hd with hd|⟨e',hd⟩
 all_goals
  simp[Builtin.append_,run_underlying ht,run_underlying hd,sizeOf,typeInfo,zeroValue,hi,hz,hlen,hnew,hold,hr,h63',h48',Question.forced,newRow,grownCap]
def zbH(h:Inv g base H D w){xT:TypeId}{x:V}{xc:Value}{sz n:Nat}{cs:ZA}{R:ZN}(hx:VRel g x xc)(hs:zau P H xT x sz=some (cs,n,R))(hD:∀b∈R,D b):cs.length=n*sz∧SrcT P xT∧(Builtin.lenOf xc).run P w=.ok n w∧∃arr:Array Value,arr.size=cs.length∧PW g cs (fun i=>arr[i]?)∧∀w':World,w'.heap=w.heap→(Builtin.firstCells sz n xc).run P w'=.ok arr w':=by
 unfold zau at hs;split at hs
 ·rename_i s hu;split at hs
  ·rename_i h1;subst h1;cases hs;obtain⟨sb,rfl,rfl⟩:=hx.inv_str;have hsz:=zcG sb;refine⟨Zs,.inl hu,by rw[←hsz];rfl,(sb.data.map fun b=>.int .u8 b.toNat),Zs,?_,?_⟩
   ·intro i y hy;rw[YT]at hy;cases e:sb.data.toList[i]? with
    |none=>rw[e]at hy;cases hy
    |some c=>rw[e]at hy;cases hy;refine⟨.int .u8 c.toNat,?_,.int _ _⟩;show (sb.data.map fun b=>Value.int .u8 b.toNat)[i]? =_;rw[Yby,←YF,e];rfl
   intro w' _;rw[←hsz];simp only[Builtin.firstCells,Sem.run_pure];have:(sb.extract 0 sb.size).data=sb.data:=by apply YbK.1;rw[zcn,YW,hsz,Ym]
   rw[this]
  cases hs
 ·rename_i e hu;have hl:=(zbb h hx hs hD).1;obtain⟨arr,h1,h2,h3⟩:=zcH (P:=P) h hx hs hD w rfl;refine⟨hl,.inr ⟨_,hu⟩,?_,?_⟩
  ·rcases(zbb h hx hs hD).2 with⟨rfl,rfl⟩|⟨a,cap,rfl,_⟩<;>rfl
  by_cases hcs:∃arr:Array Value,arr.size=cs.length∧PW g cs (fun i=>arr[i]?)∧∀w':World,w'.heap=w.heap→(Builtin.firstCells sz n xc).run P w'=.ok arr w'
  ·exact hcs
  exfalso;apply hcs;rcases zbb h hx hs hD with⟨hl,⟨rfl,rfl⟩|⟨a,cap,rfl,hc⟩⟩
  ·have:cs=[]:=Yz (by simpa using hl);subst this;exact⟨#[],rfl,PW.nil,fun _ _=>rfl⟩
  rcases hc with⟨rfl,rfl⟩|⟨e0,rfl⟩|⟨c,o,ar,t,fr,rfl,hh,hpw,hb⟩
  ·exact⟨#[],rfl,PW.nil,fun _ _=>by simp[Builtin.firstCells,loadCells,loadCellsFrom]⟩
  ·exact⟨#[],rfl,PW.nil,fun _ _=>by simp[Builtin.firstCells,e0,loadCells,loadCellsFrom]⟩
  exact⟨ar.extract o (o+n*sz),by simp[hl];omega,hpw.extract hl,fun w' hw=>by simp only[Builtin.firstCells];exact zak (by rw[hw];exact hh) hb⟩
 cases hs
def XB {g':G}{H':Hp}{W:ZN}{w':World}(p:Post g g' base H H' D W w.drew w'):Post g g' base H H' D W w w':=
 ⟨p.le,p.inv,p.newmu,p.newphi,p.frame,p.size,p.os,p.tape.trans ⟨rfl,zsF (Ya7 _)⟩,p.output,p.aframe,p.anext⟩
def Inv.drew(h:Inv g base H D w):Inv g base H D w.drew:=⟨h.frz,h.dom,h.keys,h.cont,h.inj,h.base⟩
def Post.kill {g':G}{H':Hp}{W:ZN}{w':World}{b:Nat}(p:Post g g' base H H' D W w w'):Post g g' base H (H'.kill b) D (b::W) w w':=by
 have hk:∀k x,(H'.kill b).get k=some x→H'.get k=some x:=by
  intro k x e;rw[Xh]at e;split at e
  ·cases e
  exact e
 refine⟨p.le,⟨p.inv.frz,p.inv.dom,fun k x e=>p.inv.keys k x (hk k x e),fun k x hd e=>p.inv.cont k x hd (hk k x e),fun k k' x x' T T' hd hd' e e'=>p.inv.inj k k' x x' T T' hd hd' (hk _ _ e) (hk _ _ e'),p.inv.base⟩,?_,p.newphi,?_,p.size,p.os,p.tape,p.output,?_,p.anext⟩
 ·intro k T e;refine(p.newmu k T e).imp id fun⟨h1,h2⟩=>⟨h1,h2.imp id ?_⟩;rintro⟨b0,hb,r⟩;exact⟨b0,by simp[hb],r⟩
 ·intro c hc hf;exact p.frame c hc fun k hk=>hf k (by simp[hk])
 intro k hlt hn;rw[Xh,Ye (fun e=>hn (by simp[e])),p.aframe k hlt fun e=>hn (by simp[e])]
def zpQ {b:Nat}(hb:b<H.next)(x:Blk):((H.kill b).new x)=((H.new x).kill b):=by
 unfold Hp.kill Hp.new;simp only[YaN];have:(H.next != b)=true:=by simp;omega
 simp[this]
def zvf(tb:Bool){e:TypeId}{cs:ZA}{arr rest:Array Value}(hmx:tb=true→(arr++rest).size≤maxLen)(h:Inv g base H D w)(hs:arr.size=cs.length)(hp:PW g cs (fun i=>arr[i]?)):Post g (g.add H.next ⟨w.heap.size,0,(arr++rest).size⟩) base H (H.new (rowB tb e cs)) D [] w (w.drew.alloc (.cells (arr++rest) e)):=by
 have hp':PW g cs (fun i=>(arr++rest)[i]?):=hp.congr fun i hi=>by show (arr++rest)[i]? =_;rw[YaS Zo]
 refine XB (Post.new (w:=w.drew) h.drew (o:=.cells (arr++rest) e) (tot:=(arr++rest).size) rfl rfl ⟨rfl,Yc _⟩ rfl ?_);cases tb with
 |true=>exact .ty rfl (by simp[hs]) rfl (hmx rfl) hp'
 |false=>exact .cells rfl (by simp[hs]) (hp'.congr fun i _=>by show (arr++rest)[0+i]? =_;rw[Yae])
def zn7 {need old sz:Nat}{e:TypeId}{z:Array Value}{olds news:Array Value}(hz:z.size=sz)(ho:olds.size+news.size=need*sz):0+grownCap w need old e*sz≤(olds++news++Builtin.zeroCells z (grownCap w need old e-need)).size:=by have:=grownCap_ge w need old e;rw[Array.size_append,Array.size_append,size_zeroCells,hz,ho,←Y5,Yae];exact YI _ Zo
def zbZ(tb:Bool){sT xT ty e:TypeId}{i:TypeInfo}(h1z:tb=true→i.size=1)(h:Inv g base H D w){bs:Option Addr}{len cap n:Nat}{x:V}{xc:Value}{news olds:ZA}{R:ZN} (he:zdv P sT=some e) (hi:P.info? e=some i) (hz:i.zero.isSome=true) (hx:VRel g x xc) (hsrc:zau P H xT x i.size=some (news,n,R)) (hD:∀b∈R,D b) (hl:olds.length=len*i.size) {oa:Array Value} (hoa:oa.size=olds.length) (hop:PW g olds (fun k=>oa[k]?)) (hold:∀w':World,w'.heap=w.heap→(Builtin.firstCells i.size len (.slice bs len cap)).run P w'=.ok oa w') (hr:¬len+n≤cap) (h63:len+n≤4611686018427387904) (hfit:(len+n)*i.bytes≤140737488355328) (hzs:∀z,i.zero=some z→z.cells.size=i.size):∃g' w' vc,(Builtin.append_ #[sT,xT] ty #[.slice bs len cap,xc]).run P w=.ok vc w'∧VRel g' (.sl H.next 0 (len+n) i.size none) vc∧Post g g' base H (H.new (rowB tb e (olds++news))) D [] w w':=by
 obtain⟨z,hz⟩:=YaD.1 hz;obtain⟨hl2,hd,hlen,na,hsz,hnp,hnew⟩:=zbH h hx hsrc hD;have hpw:PW g (olds++news) (fun k=>(oa++na)[k]?):=by
  refine PW.append (hop.congr fun k hk=>?_) (hnp.congr fun k hk=>?_)
  ·show (oa++na)[k]? =_;rw[YaS Zo]
  show (oa++na)[olds.length+k]? =_;rw[Array.getElem?_append_right Zo];congr 1;omega
 refine⟨_,_,_,run_append_grow' (zde he) hi hz hd hlen (hnew w.drew rfl) (hold w.drew rfl) hr h63 hfit,?_,zvf tb (rest:=Builtin.zeroCells z.cells (grownCap w (len+n) cap e-(len+n))) (fun ht=>?_) h (by simp[hoa,hsz]) hpw⟩
 ·refine .sl (T:=⟨w.heap.size,0,(oa++na++Builtin.zeroCells z.cells (grownCap w (len+n) cap e-(len+n))).size⟩) (by simp[G.add]) (grownCap_ge _ _ _ _) (fun _=>⟨rfl,?_⟩) (fun k e=>by cases e);exact zn7 (hzs z hz) (by rw[hoa,hsz,hl,hl2,←Y5])
 have e1:=h1z ht;have e2:=hzs z hz;have e3:=grownCap_le_maxLen w (len+n) cap e (by unfold maxLen;omega);have e4:=grownCap_ge w (len+n) cap e;simp only[Array.size_append,size_zeroCells,hoa,hsz,hl,hl2,e2,e1,Yas];omega
def zez(h:Inv g base H D w){sT xT ty e:TypeId}{i:TypeInfo}{off len cap n o:Nat}{x:V}{xc:Value}{news:ZA}{R:ZN}{T:Tgt}{arr:Array Value}{t:TypeId} (he:zdv P sT=some e) (hi:P.info? e=some i) (hx:VRel g x xc) (hsrc:zau P H xT x i.size=some (news,n,R)) (hD:∀b∈R,D b) (hones:news.all V.one=true) (hh:w.heap[T.c]? =some (.cells arr t (0,0))) (ho:o=T.sh+off) (hcap:o+cap*i.size≤arr.size) (hr:len+n≤cap):∃w' arr',(Builtin.append_ #[sT,xT] ty #[.slice (some ⟨T.c,o,none⟩) len cap,xc]).run P w=.ok (.slice (some ⟨T.c,o,none⟩) (len+n) cap) w'∧w'.heap[T.c]? =some (.cells arr' t (0,0))∧arr'.size=arr.size∧Only T.c w w'∧∃na:Array Value,na.size=n*i.size∧news.length=n*i.size∧PW g news (fun k=>na.toList[k]?)∧∀k,arr'[k]? =if o+len*i.size≤k∧k<o+len*i.size+n*i.size then na.toList[k-(o+len*i.size)]? else arr[k]? :=by
 obtain⟨hl2,hd,hlen,na,hsz,hnp,hnew⟩:=zbH h hx hsrc hD;have hb:o+(len+n)*i.size≤arr.size:=by have:(len+n)*i.size≤cap*i.size:=YI _ hr;omega
 rw[Y5]at hb;obtain⟨w',arr',h1,h2,h3,h4,h5⟩:=zbk (P:=P) (c:=T.c) (o:=o+len*i.size) na.toList 0 w arr hh (hnp.ones hsz hones) (by rw[YX,hsz,hl2];omega);refine⟨w',arr',?_,h2,h3,h5,na,by rw[hsz,hl2],hl2,by simpa using hnp,fun k=>?_⟩
 ·rw[run_append_room' (zde he) hi hd hlen (hnew w rfl) hr];simp only[za1,h1,Result.andThen_ok]
 rw[h4 k];simp only[YS,YX,hsz,hl2]
def xGrow_ok(h:Inv g base H D w){sT xT ty e:TypeId}{s x:V}{sc xc:Value}(ht:P.underlying sT=some (.slice e))(hs:VRel g s sc)(hx:VRel g x xc)(hp:(XR.ar H (zhN P e xT s x H)).pre):Snd P g base H D w (XR.ar H (zhN P e xT s x H)) (Builtin.append_ #[sT,xT] ty #[sc,xc]):=by
 cases hq:zhN P e xT s x H with
 |none=>rw[hq]at hp;exact hp.elim
 |some q=>
  unfold zhN at hq;split at hq;rotate_left;·cases hq
  rename_i kk k n hu;split at hq;rotate_left;·cases hq
  rename_i isz ib zok z hif hz;split at hq;rotate_left;·cases hq
  rename_i hc;cases hq;simp only[Yn]at hc;obtain⟨hok,hl,h0,h6,hib⟩:=hc;obtain⟨i,hi,rfl,rfl,_⟩:=zn4 hif;cases hs;obtain rfl:=hx.inv_int;obtain⟨i',hi',hiz⟩:=zi4 hz;obtain rfl:i'=i:=by rw[hi]at hi';exact(Yh hi').symm
  obtain⟨zl,zp⟩:=zf1 (g:=g) (n:=n.toNat) hz (by simp[zF,hi]) hok hl;obtain⟨zs,_,_⟩:=zai (zdn g z) hok;have hzc:∀m,Builtin.zeroCells z.cells m=madeCells z.cells (m*i'.size):=by intro m;unfold Builtin.zeroCells madeCells;rw[zs,hl]
  have hw:IntKind.i64.wrap n=n:=by unfold IntKind.wrap;simp[IntKind.bits,IntKind.signed];omega
  have hneg:¬n<0:=Zo;have hbig:¬(281474976710656<n*(i'.bytes:Int)):=by have:n*(i'.bytes:Int)≤1000000*100000:=Int.mul_le_mul h6 Zo Zo Zo;omega
  have hcap:Builtin.nextslicecap n.toNat 0=n.toNat:=by unfold Builtin.nextslicecap;rw[Yi Zo]
  have hbig':¬(281474976710656<n.toNat*i'.bytes):=by have:n.toNat*i'.bytes≤1000000*100000:=Ybd Zo hib;omega
  have hn0:n.toNat≠0:=Zo;have h63:¬(9223372036854775807<(n.toNat:Int)):=Zo;have hpw:PW g (zbe P e n.toNat) (fun k=>(Builtin.zeroCells z.cells n.toNat)[k]?):=by rw[hzc];exact zp
  have hsz:(Builtin.zeroCells z.cells n.toNat).size=(zbe P e n.toNat).length:=by rw[hzc,size_madeCells,zl]
  refine⟨_,w.drew.alloc (.cells (Builtin.zeroCells z.cells n.toNat++Builtin.zeroCells z.cells (grownCap w n.toNat 0 e-n.toNat)) e),.slice (some ⟨w.heap.size,0,none⟩) n.toNat (grownCap w n.toNat 0 e),?_,?_,
   zvf false (rest:=Builtin.zeroCells z.cells (grownCap w n.toNat 0 e-n.toNat)) (fun ht=>by cases ht) h hsz hpw⟩
  ·have hap:(if n.toNat*i'.size=0 then(pure #[]:Sem (Array Value))else do pure (Builtin.zeroCells (←zeroValue e).cells n.toNat)).run P w.drew=.ok (Builtin.zeroCells z.cells n.toNat) w.drew:=by
    split
    ·rename_i h0';have:i'.size=0:=by rcases Nat.mul_eq_zero.1 h0' with h|h;omega;exact h
     rw[hzc,this];simp[madeCells]
    simp[za5 hz]
   have hle:¬n≤0:=Zo;have hmx:¬9223372036854775807<max n 0:=Zo;have hfc:∀w':World,(Builtin.firstCells i'.size 0 (.slice none 0 0)).run P w'=.ok #[] w':=fun _=>rfl;have hemp:n.toNat*i'.size=0→Builtin.zeroCells z.cells n.toNat=#[]:=by intro h0';rw[hzc,h0'];simp[madeCells]
   simp[Builtin.append_,run_underlying ht,run_underlying hu,sizeOf,typeInfo,hi,asInt,asIntOf,hw,hneg,hbig,hcap,hbig',Question.forced,newRow,grownCap,hle,hmx,hfc,za5 hz];intro h0';rw[hemp h0'];simp
  refine .sl (T:=⟨w.heap.size,0,_⟩) (by simp[G.add];rfl) (grownCap_ge _ _ _ _) (fun _=>⟨rfl,?_⟩) (fun k e=>by cases e);have:=grownCap_ge w n.toNat 0 e;show 0+grownCap w n.toNat 0 e*i'.size≤(Builtin.zeroCells z.cells n.toNat).size+(Builtin.zeroCells z.cells (grownCap w n.toNat 0 e-n.toNat)).size;rw[hzc,hzc,size_madeCells,size_madeCells,←Y5,Yae];exact YI _ Zo
def ztk(h:Inv g base H D w){sT xT ty:TypeId}{s x:V}{sc xc:Value}(hs:VRel g s sc)(hx:VRel g x xc)(hp:(zdl P sT xT s x H).pre)(hD:∀b∈(zdl P sT xT s x H).R,D b):Snd P g base H D w (zdl P sT xT s x H) (Builtin.append_ #[sT,xT] ty #[sc,xc]):=by
 revert hD;unfold zdl at*;split at hp;rotate_left;·exact hp.elim
 rename_i e he;have ht:=zde he;split at hp;rotate_left;·exact hp.elim
 rename_i isz ib zok hif;obtain⟨i,hi,rfl,rfl,hzok⟩:=zn4 hif;split at hp;rotate_left;·intro _;exact xGrow_ok h ht hs hx hp
 rename_i news n R hsrc;have hz1:zok=true→i.zero.isSome=true:=fun e=>by obtain⟨z,h1,_⟩:=hzok e;rw[h1];rfl
 have hz2:zok=true→∀z,i.zero=some z→z.cells.size=i.size:=fun e z hz=>by obtain⟨z',h1,h2⟩:=hzok e;rw[h1]at hz;cases hz;exact h2
 by_cases hn0:n=0
 ·rw[Yi hn0]at hp ⊢;subst hn0;have core:∀ {bs:Option Addr} {sLen sCap:Nat},sc=.slice bs sLen sCap→sLen≤sCap→(∀b∈R,D b)→(Builtin.append_ #[sT,xT] ty #[sc,xc]).run P w=.ok sc w:=by
   intro bs sLen sCap e hl hD;subst e;obtain⟨hl2,hd,hlen,arr,hsz,_,hnew⟩:=zbH h hx hsrc hD;rw[run_append_room' ht hi hd hlen (hnew w rfl) Zo];have:arr.toList=[]:=by apply Yz;rw[YX,hsz,hl2];simp
   cases bs with
   |none=>rfl
   |some a=>rw[this];rfl
  split at hp
  ·intro hD;cases hs;exact Snd.val h _ (core rfl (Yc _) hD) .nilS
  ·intro hD;obtain⟨T,o,cap,_,hl,_,_,rfl⟩:=hs.inv_sl;exact Snd.val h _ (core rfl hl hD) hs
  ·intro hD;obtain⟨a,cap,rfl,hl,_⟩:=hs.inv_fs;exact Snd.val h _ (core rfl hl hD) hs
  exact hp.elim
 rw[Ye hn0]at hp ⊢;have hrow:rowT P e=true→i.size=1:=by
  intro hr;unfold rowT at hr;split at hr
  ·rw[hi]at hr;exact Ybm hr
  cases hr
 split at hp
 ·intro hD;obtain⟨_,hz,hfit,h63,hones⟩:=hp;cases hs;have:=zbZ (rowT P e) (ty:=ty) (bs:=none) (len:=0) (cap:=0) (olds:=[]) (oa:=#[]) hrow h he hi (hz1 hz) hx hsrc hD Zs rfl PW.nil (fun w' _=>rfl) Zo Zo (by simpa using hfit) (hz2 hz);simp only[Yae,YaY]at this;exact this
 ·rename_i b off len sz kc;split at hp;rotate_left 3;·exact hp.elim
  rotate_left
  ·rename_i t cs hg;obtain⟨T,o,cap,hm,hl,ho,hk,rfl⟩:=hs.inv_sl;split at hp;rotate_left;·exact hp.elim
   intro hD;obtain⟨rfl,his1,hz,hb,hfit,h63,hones,rfl,rfl⟩:=hp;have hDb:=hD b Zs;have hDR:∀k∈R,D k:=fun k hk=>hD k (by simp[hk]);obtain⟨T1,ob,m1,p1,h1,r1⟩:=h.cont b _ hDb hg;obtain rfl:=ZT hm m1;have hkey:=h.keys b _ hg;obtain⟨arr,rfl,hsz,hbd,hsh,hpw⟩:=r1.ty_row;have hol:((cs.drop 0).take (len*i.size)).length=len*i.size:=by simp;omega
   by_cases hr:len+n≤cap
   ·obtain⟨rfl,hcap⟩:=ho Zo;obtain⟨w',arr',e1,e2,e3,e4,na,e5,e6,e7,e8⟩:=zez (ty:=ty) (off:=0) h he hi hx hsrc hDR hones h1 rfl (by rw[hsz];exact hcap) hr;have hlen:((cs.drop 0).take (len*i.size)++news).length≤T1.tot:=by rw[Yg,hol,e6];have:(len+n)*i.size≤cap*i.size:=YI _ hr;rw[Y5]at this;omega
    refine⟨_,w',_,e1,?_,Post.take (sh:=T1.sh+0) h hDb hg hm e2 e4.other e4.size e4.os e4.tape e4.output (.ty (e3.trans hsz) hlen (by show T1.sh+0=0;omega) r1.ty_mx ?_)⟩
    ·exact .sl (T:=⟨T1.c,T1.sh+0,T1.tot⟩) (by simp[G.add]) hr (fun _=>⟨rfl,hcap⟩) (fun k e=>by cases e)
    refine PW.append (((hpw.drop 0).take _).congr fun k hk=>?_) (e7.congr fun k hk=>?_)
    ·show arr'[k]? =arr[T1.sh+(0+k)]?;rw[hol]at hk;rw[e8,Ye Zo,hsh];simp
    show arr'[((cs.drop 0).take (len*i.size)).length+k]? =_;rw[hol,e8,hsh,Yi Zo];congr 1;omega
   have hold:∃oa:Array Value,oa.size=((cs.drop 0).take (len*i.size)).length∧PW g ((cs.drop 0).take (len*i.size)) (fun k=>oa[k]?)∧
    ∀w':World,w'.heap=w.heap→(Builtin.firstCells i.size len (.slice (some ⟨T1.c,o,none⟩) len cap)).run P w'=.ok oa w':=by
    by_cases h0:len=0
    ·subst h0;exact⟨#[],Zs,by simpa using PW.nil,fun _ _=>by simp[Builtin.firstCells,loadCells,loadCellsFrom]⟩
    ·obtain⟨rfl,hcap⟩:=ho Zo;have hlc:len*i.size≤cap*i.size:=YI _ hl;refine⟨arr.extract (T1.sh+0) (T1.sh+0+len*i.size),by rw[hol];simp;omega,?_,fun w' hw=>by simp only[Builtin.firstCells];exact zak (by rw[hw];exact h1) Zo⟩;exact PW.extract (((hpw.drop 0).take _).congr fun k _=>by show _=arr[T1.sh+(0+k)]?;rw[YO]) hol
   obtain⟨oa,ho1,ho2,ho3⟩:=hold;obtain⟨g',w',vc,f1,f2,f3⟩:=zbZ true (ty:=ty) (fun _=>his1) h he hi (hz1 hz) hx hsrc hDR hol ho1 ho2 ho3 hr h63 hfit (hz2 hz);refine⟨g',w',vc,f1,f2,?_⟩;simp only;rw[zpQ hkey];exact f3.kill
  ·rename_i cs hg;obtain⟨T,o,cap,hm,hl,ho,hk,rfl⟩:=hs.inv_sl;split at hp
   ·exact hp.elim
   rename_i k;by_cases hle:len+n≤k
   ·rw[Yi hle]at hp;exact hp.elim
   rw[Ye hle]at hp ⊢;intro hD;obtain⟨rfl,_,hz,hb,hfit,h63,hones⟩:=hp;have hDb:=hD b Zs;have hDR:∀k∈R,D k:=fun k hk=>hD k (by simp[hk]);obtain⟨T1,ob,m1,p1,h1,r1⟩:=h.cont b _ hDb hg;obtain rfl:=ZT hm m1;have hck:=hk k rfl;subst hck;obtain⟨arr,t,fr,rfl,hsz,hbd,hpw⟩:=r1.ro_row;have hol:((cs.drop off).take (len*i.size)).length=len*i.size:=by simp;omega
   have hold:∃oa:Array Value,oa.size=((cs.drop off).take (len*i.size)).length∧PW g ((cs.drop off).take (len*i.size)) (fun k=>oa[k]?)∧
    ∀w':World,w'.heap=w.heap→(Builtin.firstCells i.size len (.slice (some ⟨T1.c,o,none⟩) len cap)).run P w'=.ok oa w':=by
    by_cases h0:len=0
    ·subst h0;exact⟨#[],Zs,by simpa using PW.nil,fun _ _=>by simp[Builtin.firstCells,loadCells,loadCellsFrom]⟩
    ·obtain⟨rfl,hcap⟩:=ho Zo;have hlc:len*i.size≤cap*i.size:=YI _ hl;refine⟨arr.extract (T1.sh+off) (T1.sh+off+len*i.size),by rw[hol];simp;omega,?_,fun w' hw=>by simp only[Builtin.firstCells];exact zak (by rw[hw];exact h1) Zo⟩;exact PW.extract (((hpw.drop off).take _).congr fun k _=>by show _=arr[T1.sh+(off+k)]?;rw[YO]) hol
   obtain⟨oa,ho1,ho2,ho3⟩:=hold;exact zbZ (rowT P e) (ty:=ty) hrow h he hi (hz1 hz) hx hsrc hDR hol ho1 ho2 ho3 hle h63 hfit (hz2 hz)
  rename_i cs hg;obtain⟨T,o,cap,hm,hl,ho,hk,rfl⟩:=hs.inv_sl;split at hp
  ·intro hD;obtain⟨rfl,_,hz,hb,hfit,h63,hones⟩:=hp;have hDb:=hD b Zs;have hDR:∀k∈R,D k:=fun k hk=>hD k (by simp[hk]);obtain⟨T1,ob,m1,p1,h1,r1⟩:=h.cont b _ hDb hg;obtain rfl:=ZT hm m1;have hkey:=h.keys b _ hg;cases r1 with
   |cells hsz hbd hpw=>
    rename_i arr t;have hol:((cs.drop off).take (len*i.size)).length=len*i.size:=by simp;omega
    by_cases hr:len+n≤cap
    ·obtain⟨rfl,hcap⟩:=ho Zo;obtain⟨w',arr',e1,e2,e3,e4,na,e5,e6,e7,e8⟩:=zez (ty:=ty) (off:=off) h he hi hx hsrc hDR hones h1 rfl (by rw[hsz];exact hcap) hr;refine⟨_,w',_,e1,?_,Post.take (sh:=T1.sh+off) h hDb hg hm e2 e4.other e4.size e4.os e4.tape e4.output (.cells (e3.trans hsz) ?_ ?_)⟩
     ·exact .sl (T:=⟨T1.c,T1.sh+off,T1.tot⟩) (by simp[G.add]) hr (fun _=>⟨rfl,hcap⟩) (fun k e=>by cases e)
     ·rw[Yg,hol,e6];have:(len+n)*i.size≤cap*i.size:=YI _ hr;rw[Y5]at this;show T1.sh+off+_≤T1.tot;omega
     refine PW.append (((hpw.drop off).take _).congr fun k hk=>?_) (e7.congr fun k hk=>?_)
     ·show arr'[T1.sh+off+k]? =arr[T1.sh+(off+k)]?;rw[hol]at hk;rw[e8,Ye Zo,YO]
     show arr'[T1.sh+off+(((cs.drop off).take (len*i.size)).length+k)]? =_;rw[hol,e8,Yi Zo];congr 1;omega
    have hold:∃oa:Array Value,oa.size=((cs.drop off).take (len*i.size)).length∧PW g ((cs.drop off).take (len*i.size)) (fun k=>oa[k]?)∧
     ∀w':World,w'.heap=w.heap→(Builtin.firstCells i.size len (.slice (some ⟨T1.c,o,none⟩) len cap)).run P w'=.ok oa w':=by
     by_cases h0:len=0
     ·subst h0;exact⟨#[],Zs,by simpa using PW.nil,fun _ _=>by simp[Builtin.firstCells,loadCells,loadCellsFrom]⟩
     ·obtain⟨rfl,hcap⟩:=ho Zo;have hlc:len*i.size≤cap*i.size:=YI _ hl;refine⟨arr.extract (T1.sh+off) (T1.sh+off+len*i.size),by rw[hol];simp;omega,?_,fun w' hw=>by simp only[Builtin.firstCells];exact zak (by rw[hw];exact h1) Zo⟩;exact PW.extract (((hpw.drop off).take _).congr fun k _=>by show _=arr[T1.sh+(off+k)]?;rw[YO]) hol
    obtain⟨oa,ho1,ho2,ho3⟩:=hold;obtain⟨g',w',vc,f1,f2,f3⟩:=zbZ false (ty:=ty) (fun ht=>by cases ht) h he hi (hz1 hz) hx hsrc hDR hol ho1 ho2 ho3 hr h63 hfit (hz2 hz);refine⟨g',w',vc,f1,f2,?_⟩;simp only;rw[zpQ hkey];exact f3.kill
  rename_i k;by_cases hle:len+n≤k
  ·rw[Yi hle]at hp ⊢;intro hD;obtain⟨rfl,hb,hones⟩:=hp;have hDb:=hD b Zs;have hDR:∀k∈R,D k:=fun k hk=>hD k (by simp[hk]);obtain⟨T1,ob,m1,p1,h1,r1⟩:=h.cont b _ hDb hg;obtain rfl:=ZT hm m1;have hck:=hk k rfl;subst hck;cases r1 with
   |cells hsz hbd hpw=>
    rename_i arr t;obtain⟨rfl,hcap⟩:=ho Zo;obtain⟨w',arr',e1,e2,e3,e4,na,e5,e6,e7,e8⟩:=zez (ty:=ty) (off:=off) h he hi hx hsrc hDR hones h1 rfl (by rw[hsz];exact hcap) hle;rw[Y5]at hb;refine⟨g,w',_,e1,.sl hm hle (fun _=>⟨rfl,hcap⟩) (fun k e=>by cases e;rfl),Post.put h hDb hg hm e2 e4.other e4.size e4.os e4.tape e4.output (.cells (e3.trans hsz) ?_ ?_)⟩
    ·simp;omega
    refine PW.splice hpw (vs:=na.toList) e7 (by rw[YX,e5,e6]) Zo fun j=>?_;show arr'[T1.sh+j]? =_;rw[e8,e6];by_cases hj:off+len*i.size≤j∧j<off+len*i.size+n*i.size
    ·rw[Yi Zo,Yi hj];congr 1;omega
    rw[Ye Zo,Ye hj]
  rw[Ye hle]at hp ⊢;intro hD;obtain⟨rfl,_,hz,hb,hfit,h63,hones⟩:=hp;have hDb:=hD b Zs;have hDR:∀k∈R,D k:=fun k hk=>hD k (by simp[hk]);obtain⟨T1,ob,m1,p1,h1,r1⟩:=h.cont b _ hDb hg;obtain rfl:=ZT hm m1;have hck:=hk k rfl;subst hck;cases r1 with
  |cells hsz hbd hpw=>
   rename_i arr t;have hol:((cs.drop off).take (len*i.size)).length=len*i.size:=by simp;omega
   have hold:∃oa:Array Value,oa.size=((cs.drop off).take (len*i.size)).length∧PW g ((cs.drop off).take (len*i.size)) (fun k=>oa[k]?)∧
    ∀w':World,w'.heap=w.heap→(Builtin.firstCells i.size len (.slice (some ⟨T1.c,o,none⟩) len cap)).run P w'=.ok oa w':=by
    by_cases h0:len=0
    ·subst h0;exact⟨#[],Zs,by simpa using PW.nil,fun _ _=>by simp[Builtin.firstCells,loadCells,loadCellsFrom]⟩
    ·obtain⟨rfl,hcap⟩:=ho Zo;have hlc:len*i.size≤cap*i.size:=YI _ hl;refine⟨arr.extract (T1.sh+off) (T1.sh+off+len*i.size),by rw[hol];simp;omega,?_,fun w' hw=>by simp only[Builtin.firstCells];exact zak (by rw[hw];exact h1) Zo⟩;exact PW.extract (((hpw.drop off).take _).congr fun k _=>by show _=arr[T1.sh+(off+k)]?;rw[YO]) hol
   obtain⟨oa,ho1,ho2,ho3⟩:=hold;exact zbZ (rowT P e) (ty:=ty) hrow h he hi (hz1 hz) hx hsrc hDR hol ho1 ho2 ho3 hle h63 hfit (hz2 hz)
 exact hp.elim
end
end Go.Ab
