/- A call that writes one block and moves a row that belongs to it. -/
import Derived.Test.YtbdlfegfepggnaaGreatDoorPk1
set_option linter.all false
set_option maxHeartbeats 16000000
set_option maxRecDepth 100000
noncomputable section
namespace Go.Ab
def Post.first {g:G}{base:Nat}{H:Hp}{D:Nat→Prop}{w w':World}(h:Inv g base H D w){b:Nat}{x y z:Blk}{Tb:Tgt}{ob oc:Obj}{gn tot:Nat} (hDb:D b) (hb:H.get b=some x) (hmb:g.mu b=some Tb) (hg:w.heap.size≤gn) (hgs:gn<w'.heap.size) (hnb:w'.heap[Tb.c]? =some ob) (hng:w'.heap[gn]? =some oc) (hold:∀k,k<w.heap.size→k≠Tb.c→w'.heap[k]? =w.heap[k]?) (hs:w.heap.size≤w'.heap.size) (ho:w'.os=w.os) (ht:Tp w w') (hu:w'.output=w.output) (hrb:BlkRel (g.add H.next ⟨gn,0,tot⟩) y Tb ob) (hrc:BlkRel (g.add H.next ⟨gn,0,tot⟩) z ⟨gn,0,tot⟩ oc):Post g (g.add H.next ⟨gn,0,tot⟩) base H ((H.put b y).new z) D [b] w w':=by
 have hle:g.le (g.add H.next ⟨gn,0,tot⟩):=Xp h.fresh;obtain⟨_,_,eb,pb,_,_⟩:=h.cont b x hDb hb;have e1:=Yh (eb.symm.trans hmb);subst e1;have hbn:=h.keys b x hb;have own:∀k T,(g.add H.next ⟨gn,0,tot⟩).mu k=some T→(k=H.next∧T=⟨gn,0,tot⟩)∨(k≠H.next∧g.mu k=some T):=by
  intro k T e;simp only[G.add]at e;split at e
  ·rename_i hk;cases e;exact .inl ⟨hk,rfl⟩
  rename_i hk;exact .inr ⟨hk,e⟩
 have hget:∀k x',((H.put b y).new z).get k=some x'→(k=H.next∧x'=z)∨(k≠H.next∧k=b∧x'=y)∨(k≠H.next∧k≠b∧H.get k=some x'):=by
  intro k x' e;rw[Xe]at e;split at e
  ·rename_i hk;cases e;exact .inl ⟨hk,rfl⟩
  rename_i hk;rw[Xd]at e;split at e
  ·rename_i hkb;subst hkb;rw[hb]at e;cases e;exact .inr (.inl ⟨hk,rfl,rfl⟩)
  rename_i hkb;exact .inr (.inr ⟨hk,hkb,e⟩)
 have hpg:g.phi gn=none:=by
  cases hp:g.phi gn with
  |none=>rfl
  |some a=>exact absurd (h.below_phi hp) Zo
 refine⟨hle,⟨?_,?_,?_,?_,?_,Yw h.base hs⟩,?_,fun c a e=>.inl e,?_,hs,ho,ht,hu,?_,Ya7 _⟩
 ·intro c a e;have e':g.phi c=some a:=e;rw[hold c (h.below_phi e') (fun k=>by rw[k,pb]at e';cases e')];exact h.frz c a e'
 ·intro k T e;rcases own k T e with⟨rfl,rfl⟩|⟨_,e⟩
  ·exact⟨YD _,Yw h.base hg,hgs⟩
  obtain⟨q1,q2,q3⟩:=h.dom k T e;exact⟨Yal q1,q2,Yu q3 hs⟩
 ·intro k x' e;rcases hget k x' e with⟨rfl,_⟩|⟨_,rfl,_⟩|⟨_,_,e⟩
  ·exact YD _
  ·exact Yal hbn
  exact Yal (h.keys k x' e)
 ·intro k x' hd e;rcases hget k x' e with⟨rfl,rfl⟩|⟨_,rfl,rfl⟩|⟨hn,hkb,e⟩
  ·exact⟨⟨gn,0,tot⟩,oc,by simp[G.add],hpg,hng,hrc⟩
  ·exact⟨_,ob,hle.1 _ _ hmb,pb,hnb,hrb⟩
  have hlt:=h.keys k x' e;have hDk:=hd.resolve_right Zo;obtain⟨T,o',e1,e2,e3,e4⟩:=h.cont k x' hDk e;refine⟨T,o',hle.1 _ _ e1,e2,?_,e4.mono hle⟩;rw[hold _ (h.dom k T e1).2.2 (fun q=>hkb (h.inj k b x' x T _ hDk hDb e hb e1 hmb q))];exact e3
 ·intro k k' x1 x2 T T' hd hd' e e' m m' ec;rcases own k T m with⟨rfl,rfl⟩|⟨hk,m⟩<;>rcases own k' T' m' with⟨rfl,rfl⟩|⟨hk',m'⟩
  ·rfl
  ·have:=(h.dom k' T' m').2.2;simp at ec;omega
  ·have:=(h.dom k T m).2.2;simp at ec;omega
  have live:∀k x1,k≠H.next→(D k∨H.next≤k)→((H.put b y).new z).get k=some x1→D k∧∃x3,H.get k=some x3:=by
   intro k x1 hk hd e;rcases hget k x1 e with⟨h1,_⟩|⟨_,rfl,_⟩|⟨_,_,e⟩
   ·exact absurd h1 hk
   ·exact⟨hDb,x,hb⟩
   exact⟨hd.resolve_right (by have:=h.keys k x1 e;omega),x1,e⟩
  obtain⟨d1,x3,e3⟩:=live k x1 hk hd e;obtain⟨d2,x4,e4⟩:=live k' x2 hk' hd' e';exact h.inj k k' x3 x4 T T' d1 d2 e3 e4 m m' ec
 ·intro k T e;rcases own k T e with⟨rfl,rfl⟩|⟨_,e⟩
  ·exact .inr ⟨Yc _,.inl hg⟩
  exact .inl e
 ·intro k hk hw;exact hold k hk (fun q=>hw b Zs _ hmb q.symm)
 intro k hk hw;have h1:k≠b:=by simpa using hw
 rw[Xe,Ye (show ¬k=(H.put b y).next from Nat.ne_of_lt hk),Xd,Ye h1]
def XE {g:G}{base:Nat}{H:Hp}{D:Nat→Prop}{w w':World}(h:Inv g base H D w){b c:Nat}{x r y z:Blk}{Tb Tc:Tgt}{ob oc:Obj}{gn tot:Nat} (hne:b≠c) (hDb:D b) (hDc:D c) (hb:H.get b=some x) (hc:H.get c=some r) (hmb:g.mu b=some Tb) (hmc:g.mu c=some Tc) (hg:gn=Tc.c∨w.heap.size≤gn) (hgs:gn<w'.heap.size) (hnb:w'.heap[Tb.c]? =some ob) (hng:w'.heap[gn]? =some oc) (hold:∀k,k<w.heap.size→k≠Tb.c→k≠Tc.c→w'.heap[k]? =w.heap[k]?) (hs:w.heap.size≤w'.heap.size) (ho:w'.os=w.os) (ht:Tp w w') (hu:w'.output=w.output) (hrb:BlkRel (g.add H.next ⟨gn,0,tot⟩) y Tb ob) (hrc:BlkRel (g.add H.next ⟨gn,0,tot⟩) z ⟨gn,0,tot⟩ oc):Post g (g.add H.next ⟨gn,0,tot⟩) base H (((H.put b y).kill c).new z) D [b,c] w w':=by
 have hle:g.le (g.add H.next ⟨gn,0,tot⟩):=Xp h.fresh;obtain⟨_,_,eb,pb,_,_⟩:=h.cont b x hDb hb;obtain⟨_,_,ec0,pc,_,_⟩:=h.cont c r hDc hc;have e1:=Yh (eb.symm.trans hmb);subst e1;have e2:=Yh (ec0.symm.trans hmc);subst e2;have hbn:=h.keys b x hb;have hcn:=h.keys c r hc;have own:∀k T,(g.add H.next ⟨gn,0,tot⟩).mu k=some T→(k=H.next∧T=⟨gn,0,tot⟩)∨(k≠H.next∧g.mu k=some T):=by
  intro k T e;simp only[G.add]at e;split at e
  ·rename_i hk;cases e;exact .inl ⟨hk,rfl⟩
  rename_i hk;exact .inr ⟨hk,e⟩
 have hget:∀k x',(((H.put b y).kill c).new z).get k=some x'→(k=H.next∧x'=z)∨(k≠H.next∧k=b∧x'=y)∨(k≠H.next∧k≠b∧k≠c∧H.get k=some x'):=by
  intro k x' e;rw[Xe]at e;split at e
  ·rename_i hk;cases e;exact .inl ⟨hk,rfl⟩
  rename_i hk;rw[Xh]at e;split at e
  ·cases e
  rename_i hkc;rw[Xd]at e;split at e
  ·rename_i hkb;subst hkb;rw[hb]at e;cases e;exact .inr (.inl ⟨hk,rfl,rfl⟩)
  rename_i hkb;exact .inr (.inr ⟨hk,hkb,hkc,e⟩)
 have hpg:g.phi gn=none:=by
  rcases hg with rfl|hg
  ·exact pc
  cases hp:g.phi gn with
  |none=>rfl
  |some a=>exact absurd (h.below_phi hp) Zo
 refine⟨hle,⟨?_,?_,?_,?_,?_,Yw h.base hs⟩,?_,fun c a e=>.inl e,?_,hs,ho,ht,hu,?_,Ya7 _⟩
 ·intro k a e;have e':g.phi k=some a:=e;rw[hold k (h.below_phi e') (fun q=>by rw[q,pb]at e';cases e') (fun q=>by rw[q,pc]at e';cases e')];exact h.frz k a e'
 ·intro k T e;rcases own k T e with⟨rfl,rfl⟩|⟨_,e⟩
  ·refine⟨YD _,?_,hgs⟩;rcases hg with rfl|hg
   ·exact(h.dom c _ hmc).2.1
   exact Yw h.base hg
  obtain⟨q1,q2,q3⟩:=h.dom k T e;exact⟨Yal q1,q2,Yu q3 hs⟩
 ·intro k x' e;rcases hget k x' e with⟨rfl,_⟩|⟨_,rfl,_⟩|⟨_,_,_,e⟩
  ·exact YD _
  ·exact Yal hbn
  exact Yal (h.keys k x' e)
 ·intro k x' hd e;rcases hget k x' e with⟨rfl,rfl⟩|⟨_,rfl,rfl⟩|⟨hn,hkb,hkc,e⟩
  ·exact⟨⟨gn,0,tot⟩,oc,by simp[G.add],hpg,hng,hrc⟩
  ·exact⟨_,ob,hle.1 _ _ hmb,pb,hnb,hrb⟩
  have hlt:=h.keys k x' e;have hDk:=hd.resolve_right Zo;obtain⟨T,o',e1,e2,e3,e4⟩:=h.cont k x' hDk e;refine⟨T,o',hle.1 _ _ e1,e2,?_,e4.mono hle⟩;rw[hold _ (h.dom k T e1).2.2 (fun q=>hkb (h.inj k b x' x T _ hDk hDb e hb e1 hmb q)) (fun q=>hkc (h.inj k c x' r T _ hDk hDc e hc e1 hmc q))];exact e3
 ·intro k k' x1 x2 T T' hd hd' e e' m m' ec;have live:∀k x1,k≠H.next→(D k∨H.next≤k)→(((H.put b y).kill c).new z).get k=some x1→D k∧k≠c∧∃x3,H.get k=some x3:=by
   intro k x1 hk hd e;rcases hget k x1 e with⟨h1,_⟩|⟨_,rfl,_⟩|⟨_,_,hkc,e⟩
   ·exact absurd h1 hk
   ·exact⟨hDb,hne,x,hb⟩
   exact⟨hd.resolve_right (by have:=h.keys k x1 e;omega),hkc,x1,e⟩
  have far:∀k x1 T,k≠H.next→(D k∨H.next≤k)→(((H.put b y).kill c).new z).get k=some x1→g.mu k=some T→T.c≠gn:=by
   intro k x1 T hk hd e m q;obtain⟨d1,hkc,x3,e3⟩:=live k x1 hk hd e;rcases hg with hg|hg
   ·exact hkc (h.inj k c x3 r T _ d1 hDc e3 hc m hmc (q.trans hg))
   have:=(h.dom k T m).2.2;omega
  rcases own k T m with⟨rfl,rfl⟩|⟨hk,m⟩<;>rcases own k' T' m' with⟨rfl,rfl⟩|⟨hk',m'⟩
  ·rfl
  ·exact absurd ec.symm (far k' x2 T' hk' hd' e' m')
  ·exact absurd ec (far k x1 T hk hd e m)
  obtain⟨d1,_,x3,e3⟩:=live k x1 hk hd e;obtain⟨d2,_,x4,e4⟩:=live k' x2 hk' hd' e';exact h.inj k k' x3 x4 T T' d1 d2 e3 e4 m m' ec
 ·intro k T e;rcases own k T e with⟨rfl,rfl⟩|⟨_,e⟩
  ·refine .inr ⟨Yc _,?_⟩;rcases hg with rfl|hg
   ·exact .inr ⟨c,Zs,_,hmc,rfl⟩
   exact .inl hg
  exact .inl e
 ·intro k hk hw;exact hold k hk (fun q=>hw b Zs _ hmb q.symm) (fun q=>hw c Zs _ hmc q.symm)
 intro k hk hw;have h1:k≠b∧k≠c:=by simpa using hw
 rw[Xe,Ye (show ¬k=((H.put b y).kill c).next from Nat.ne_of_lt hk),Xh,Ye h1.2,Xd,Ye h1.1]
end Go.Ab

namespace Go.Proofs
open Tryz Go.Ab Go.Pl Go.Shelf Go.RowKit
def wrB(c n:Nat)(r:ZA):Blk:=.cells (.sl c 0 n 1 none::.int .i64 0::.int .i8 0::r)
def wr0(r:ZA):Blk:=.cells (.nilS::.int .i64 0::.int .i8 0::r)
def tp_of {w w':World}(h:w'.tape=w.tape):Tp w w':=⟨h,Yc _⟩
def byteCells_one(l:ZL):∀v∈Lib.byteCells l,v.oneCell'=true:=fun v h=>by obtain⟨c,_,rfl⟩:=YZ.1 h;rfl
def zdU {l:ZL}(h:l≠[]):¬(Lib.byteCells l).length=0:=by rw[Lib.byteCells_length];exact fun e=>h (Yz e)
def row_take {g:G}{l:ZL}{cur:Array Value}(h:PW g (l.map zq) (fun i=>cur[i]?)):cur.toList.take l.length=Lib.byteCells l:=by
 apply YaI;intro i;rw[Yba];split
 ·rename_i hi;obtain⟨v,hv,r⟩:=h i (zq l[i]) (by simp[hi]);obtain rfl:=VRel.inv_int r;have hv':cur[i]? =_:=hv;rw[YF,hv'];simp[Lib.byteCells,hi]
 rename_i hi;rw[Yo (by rw[Lib.byteCells_length];omega)]
def zph {g:G}{l:ZL}{cur:Array Value}(h:cur.toList.take l.length=Lib.byteCells l):PW g (l.map zq) (fun i=>cur[i]?):=by
 intro i x hx;obtain⟨c,hc,rfl⟩:∃c,l[i]? =some c∧zq c=x:=by simpa[YT,YN]using hx
 have hi:=(Ys.1 hc).1;refine⟨.int .u8 c.toNat,?_,.int _ _⟩;have h1:(cur.toList.take l.length)[i]? =some (.int .u8 c.toNat):=by rw[h];simp[Lib.byteCells,hc]
 rw[Yba,Yi hi,YF]at h1;exact h1
section
variable {g:G}{base:Nat}{H:Hp}{D:Nat→Prop}{w:World}
def wr_ne {b c n:Nat}{r:ZA}{l:ZL}(hb:H.get b=some (wrB c n r))(hc:H.get c=some (bly l)):b≠c:=by rintro rfl;rw[hb]at hc;cases hc
def bg_in(hI:Inv g base H D w){b c n:Nat}{r:ZA}{l:ZL}(hDb:D b)(hDc:D c)(hb:H.get b=some (wrB c n r))(hc:H.get c=some (bly l))(hn:n=l.length)(h0:l≠[]):∃(Tb Tc:Tgt)(T:TypeId)(arr:Array Value),g.mu b=some Tb∧g.mu c=some Tc∧arr.size=Tb.tot∧Tb.sh+(3+r.length)≤Tb.tot∧PW g r (fun i=>arr[Tb.sh+(3+i)]?)∧Bg T 5 (fun i=>arr[i]?) Tb.c Tb.sh Tc.c (Lib.byteCells l).length (Lib.byteCells l) w:=by
 have hne:=wr_ne hb hc;obtain⟨Tb,o,mb,pb,ob,rb⟩:=hI.cont b _ hDb hb;obtain⟨Tc,o',mc,pc,oc,rc⟩:=hI.cont c _ hDc hc;have hcc:Tc.c≠Tb.c:=fun e=>hne (hI.inj b c _ _ Tb Tc hDb hDc hb hc mb mc e.symm);subst hn;have hmx:=rc.ty_mx;obtain⟨cur,rfl,hsz,hbd',hsh,hpw⟩:=rc.ty_row;unfold wrB at rb;cases rb with
 |@cells _ _ arr T hs hbd hp=>
  obtain⟨v0,hv0,r0⟩:=hp 0 _ rfl;obtain⟨v1,hv1,r1⟩:=hp 1 _ rfl;obtain⟨v2,hv2,r2⟩:=hp 2 _ rfl;obtain rfl:=VRel.inv_int r1;obtain rfl:=VRel.inv_int r2;obtain⟨T',ofs,cap,mc',hl,ho,hk,rfl⟩:=r0.inv_sl;obtain rfl:T'=Tc:=by rw[mc]at mc';exact(Yh mc').symm
  have hpos:0<l.length:=Ybr.2 h0;obtain⟨rfl,hcap⟩:=ho Zo;have hlen:(V.sl c 0 l.length 1 none::V.int .i64 0::V.int .i8 0::r).length=3+r.length:=by simp;omega
  rw[hlen]at hbd;rw[hsh]at hcap;refine⟨Tb,T',T,arr,mb,mc,hs,hbd,fun i x hx=>?_,cap,cur,0,⟨arr,ob,?_,hv1,hv2,fun i _=>rfl⟩,oc,?_,Zo,⟨Zo,Zo,rfl⟩,?_,hcc⟩
  ·exact hp (3+i) x (by rw[show 3+i=i+1+1+1 by omega];exact hx)
  ·rw[Lib.byteCells_length];have hv0':arr[Tb.sh]? =some (.slice (some ⟨T'.c,T'.sh+0,none⟩) l.length cap):=hv0;rw[hv0',hsh]
  ·rw[Lib.byteCells_length];exact hl
  rw[Lib.byteCells_length];exact row_take (hpw.congr fun i _=>by rw[hsh,Yae])
def zx8(hI:Inv g base H D w){b c n:Nat}{r:ZA}{l l':ZL}(hDb:D b)(hDc:D c)(hb:H.get b=some (wrB c n r))(hc:H.get c=some (bly l)) {Tb Tc:Tgt} {T:TypeId} {arr:Array Value} (mb:g.mu b=some Tb) (mc:g.mu c=some Tc) (hs:arr.size=Tb.tot) (hbd:Tb.sh+(3+r.length)≤Tb.tot) (hp:PW g r (fun i=>arr[Tb.sh+(3+i)]?)) {g':Nat} {w':World} (hg:g'=Tc.c∨w.heap.size≤g') (hB:Bg T 5 (fun i=>arr[i]?) Tb.c Tb.sh g' (Lib.byteCells l').length (Lib.byteCells l') w') (hO:Oth Tb.c Tc.c w w'):∃g1,Post g g1 base H (((H.put b (wrB H.next l'.length r)).kill c).new (bly l')) D [b,c] w w':=by
 obtain⟨cap,cur,lr,⟨cs,hcs,c0,c1,c2,hr⟩,hgr,hlc,hcm,⟨hcs1,hcs2,rfl⟩,htk,hgb⟩:=hB;rw[Lib.byteCells_length]at c0 hlc htk;have hne:=wr_ne hb hc;have k0:=(YA.1 c2).1;have hsz:cs.size=arr.size:=by
  rcases Ya5 cs.size arr.size with h|h|h
  ·have:cs[cs.size]? =arr[cs.size]? :=hr cs.size (.inr Zo);rw[Yr (Yc _),Y6 h]at this;cases this
  ·exact h
  have:cs[arr.size]? =arr[arr.size]? :=hr arr.size (.inr Zo);rw[Y6 h,Yr (Yc _)]at this;cases this
 refine⟨_,XE (tot:=cur.size) hI hne hDb hDc hb hc mb mc hg (Lib.lt_of_heap hgr) hcs hgr hO.block hO.size hO.os (tp_of hO.tape) hO.output ?_ ?_⟩
 ·refine .cells (hsz.trans hs) ?_ fun i x hx=>?_
  ·have:(V.sl H.next 0 l'.length 1 none::V.int .i64 0::V.int .i8 0::r).length=3+r.length:=by simp;omega
   rw[this];exact hbd
  match i,hx with
  |0,hx=>cases hx;exact⟨_,c0,.sl (T:=⟨g',0,cur.size⟩) (by simp[G.add]) hlc (fun _=>⟨rfl,by simpa using hcs1⟩) (fun k e=>by cases e)⟩
  |1,hx=>cases hx;exact⟨_,c1,.int _ _⟩
  |2,hx=>cases hx;exact⟨_,c2,.int _ _⟩
  |i+3,hx=>obtain⟨v,hv,rv⟩:=hp i x hx;have hv':arr[Tb.sh+(3+i)]? =some v:=hv;exact⟨v,by show cs[Tb.sh+(i+3)]? =_;rw[hr _ (.inr Zo),Nat.add_comm i 3];exact hv',rv.mono (Xp hI.fresh)⟩
 exact .ty rfl (by simpa using Nat.le_trans hlc hcs1) rfl hcs2 (zph htk)
def zhc {b c:Nat}{x r y z:Blk}(hb:H.get b=some x)(hc:H.get c=some r):Ab.Stat H (((H.put b y).kill c).new z) [b,c]:=by
 refine⟨Ya7 _,fun k hk hw=>?_,fun k hk=>?_,fun hk k x' e=>?_⟩
 ·have h1:k≠b∧k≠c:=by simpa using hw
  rw[Xe,Ye (show ¬k=((H.put b y).kill c).next from Nat.ne_of_lt hk),Xh,Ye h1.2,Xd,Ye h1.1]
 ·have h1:k=b∨k=c:=by simpa using hk
  rcases h1 with rfl|rfl
  ·exact⟨_,hb⟩
  exact⟨_,hc⟩
 show k<H.next+1;rw[Xe]at e;split at e
 ·rename_i h;rw[h];exact YD _
 rw[Xh]at e;split at e
 ·cases e
 rw[Xd]at e;split at e
 ·rename_i h;subst h;exact Yal (hk _ _ hb)
 exact Yal (hk _ _ e)
end
def argsB {g:G}{x y:V}{vs:Array Value}(hvs:vs.size=2)(hpw:PW g [x,y] (fun i=>vs[i]?)):∃u v,vs=#[u,v]∧VRel g x u∧VRel g y v:=by
 obtain⟨u,hu,ru⟩:=hpw 0 _ rfl;obtain⟨v,hv,rv⟩:=hpw 1 _ rfl;refine⟨u,v,?_,ru,rv⟩;apply Yao;intro i;match i with
 |0=>exact hu
 |1=>exact hv
 |i+2=>rw[Yr Zo,Yr Zs]
def wbyte_H {b c:Nat}{r:ZA}{l:ZL}(x:UInt8){H:Hp}(h0:l≠[])(hl:l.length≤100000000)(hb:H.get b=some (wrB c l.length r))(hc:H.get c=some (bly l)):HCall prog 25 [.ptr b 0,zq x] H ⟨True,.nilI,((H.put b (wrB H.next (l++[x]).length r)).kill c).new (bly (l++[x])),[b,c],[b,c]⟩:=by
 refine⟨fun _=>zhc hb hc,fun _ g base D w vs hgl hI hvs hpw hD=>?_⟩;have hDb:D b:=hD b Zs;have hDc:D c:=hD c Zs;obtain⟨u,v,rfl,ru,rv⟩:=argsB hvs hpw;obtain⟨Tb,Tc,T,arr,mb,mc,hs,hbd,hp,hB⟩:=bg_in hI hDb hDc hb hc rfl h0;obtain⟨T',mb',rfl⟩:=ru.inv_ptr;obtain rfl:T'=Tb:=by rw[mb]at mb';exact(Yh mb').symm
 obtain rfl:=VRel.inv_int rv;refine .inl ⟨call25 _ w,(bf_byte laysB179 T (fun i=>arr[i]?) T'.c T'.sh Tc.c (Lib.byteCells l) x.toNat w hB (zdU h0) (byteCells_one l) (by rw[Lib.byteCells_length];omega)).mono fun e w' hq=>?_⟩;obtain⟨rfl,g',hg,hB',hO⟩:=hq;have hap:Lib.byteCells l++[Value.int .u8 x.toNat]=Lib.byteCells (l++[x]):=by simp[Lib.byteCells]
 rw[hap]at hB';obtain⟨g1,p⟩:=zx8 hI hDb hDc hb hc mb mc hs hbd hp hg hB' hO;exact⟨g1,_,rfl,.nilI,p⟩
def wstr_H {b c:Nat}{r:ZA}{l:ZL}(s:ZL){H:Hp}(h0:l≠[])(hl:l.length≤100000000)(hsl:s.length≤100000000)(hb:H.get b=some (wrB c l.length r))(hc:H.get c=some (bly l)):HCall prog 24 [.ptr b 0,.str s] H ⟨True,.tup [.int .i64 s.length,.nilI],((H.put b (wrB H.next (l++s).length r)).kill c).new (bly (l++s)),[b,c],[b,c]⟩:=by
 refine⟨fun _=>zhc hb hc,fun _ g base D w vs hgl hI hvs hpw hD=>?_⟩;have hDb:D b:=hD b Zs;have hDc:D c:=hD c Zs;obtain⟨u,v,rfl,ru,rv⟩:=argsB hvs hpw;obtain⟨Tb,Tc,T,arr,mb,mc,hs,hbd,hp,hB⟩:=bg_in hI hDb hDc hb hc rfl h0;obtain⟨T',mb',rfl⟩:=ru.inv_ptr;obtain rfl:T'=Tb:=by rw[mb]at mb';exact(Yh mb').symm
 obtain⟨ba,rfl,hba⟩:=rv.inv_str;have hsz:ba.size=s.length:=by rw[←hba];rfl
 have hap:Lib.byteCells l++Lib.byteCells ba.data.toList=Lib.byteCells (l++s):=by rw[hba];simp[Lib.byteCells]
 have fin:∀ {e:Ending} {w':World},(e=.returned (.tuple #[.int .i64 s.length,.nilIface])∧∃g',(g'=Tc.c∨w.heap.size≤g')∧Bg T 5 (fun i=>arr[i]?) T'.c T'.sh g' (Lib.byteCells (l++s)).length (Lib.byteCells (l++s)) w'∧Oth T'.c Tc.c w w')→
  ∃g' vc,e=.returned vc∧VRel g' (.tup [.int .i64 s.length,.nilI]) vc∧Post g g' base H (((H.put b (wrB H.next (l++s).length r)).kill c).new (bly (l++s))) D [b,c] w w':=by
  rintro e w' ⟨rfl,g',hg,hB',hO⟩
  obtain⟨g1,p⟩:=zx8 hI hDb hDc hb hc mb mc hs hbd hp hg hB' hO
  refine⟨g1,_,rfl,Xf rfl fun i x hx=>?_,p⟩
  match i,hx with
  |0,hx=>cases hx;exact⟨_,rfl,.int _ _⟩
  |1,hx=>cases hx;exact⟨_,rfl,.nilI⟩
 by_cases hs0:s=[]
 ·subst hs0;refine .inl ⟨zxe _ w,(bf_empty zj6 T (fun i=>arr[i]?) T'.c T'.sh Tc.c (Lib.byteCells l) ba w hB hsz).mono fun e w' hq=>fin ?_⟩;obtain⟨rfl,hB',hO⟩:=hq;rw[Yab];exact⟨rfl,Tc.c,.inl rfl,hB',hO⟩
 refine .inl ⟨zxe _ w,(zx9 zj6 T (fun i=>arr[i]?) T'.c T'.sh Tc.c (Lib.byteCells l) ba w hB (zdU h0) (by rw[hsz];exact fun e=>hs0 (Yz e)) (byteCells_one l) (by rw[Lib.byteCells_length,hsz];omega)).mono fun e w' hq=>fin ?_⟩;obtain⟨rfl,g',hg,hB',hO⟩:=hq;rw[hap]at hB';rw[hsz];exact⟨rfl,g',hg,hB',hO⟩
def wfirst_H {b:Nat}{r:ZA}(s:ZL){H:Hp}(h0:s≠[])(hsl:s.length≤64)(hb:H.get b=some (wr0 r)):HCall prog 24 [.ptr b 0,.str s] H ⟨True,.tup [.int .i64 s.length,.nilI],(H.put b (wrB H.next s.length r)).new (bly s),[b],[b]⟩:=by
 refine⟨fun _=>?_,fun _ g base D w vs hgl hI hvs hpw hD=>?_⟩
 ·refine⟨Ya7 _,fun k hk hw=>?_,fun k hk=>?_,fun hk k x' e=>?_⟩
  ·have h1:k≠b:=by simpa using hw
   rw[Xe,Ye (show ¬k=(H.put b _).next from Nat.ne_of_lt hk),Xd,Ye h1]
  ·have h1:k=b:=by simpa using hk
   exact⟨_,h1▸hb⟩
  show k<H.next+1;rw[Xe]at e;split at e
  ·rename_i h;rw[h];exact YD _
  rw[Xd]at e;split at e
  ·rename_i h;subst h;exact Yal (hk _ _ hb)
  exact Yal (hk _ _ e)
 have hDb:D b:=hD b Zs;obtain⟨u,v,rfl,ru,rv⟩:=argsB hvs hpw;obtain⟨Tb,mb,rfl⟩:=ru.inv_ptr;obtain⟨ba,rfl,hba⟩:=rv.inv_str;have hsz:ba.size=s.length:=by rw[←hba];rfl
 obtain⟨T',o,mb',pb,ob,rb⟩:=hI.cont b _ hDb hb;obtain rfl:T'=Tb:=by rw[mb]at mb';exact(Yh mb').symm
 unfold wr0 at rb;cases rb with
 |@cells _ _ arr T hs hbd hp=>
  obtain⟨v0,hv0,r0⟩:=hp 0 _ rfl;obtain⟨v1,hv1,r1⟩:=hp 1 _ rfl;obtain⟨v2,hv2,r2⟩:=hp 2 _ rfl;obtain rfl:=VRel.inv_int r1;obtain rfl:=VRel.inv_int r2;have e0:v0=.slice none 0 0:=by cases r0;rfl
  subst e0;have hlen:(V.nilS::V.int .i64 0::V.int .i8 0::r).length=3+r.length:=by simp;omega
  rw[hlen]at hbd;have h3:LibA.Three w T'.c T'.sh T (fun i=>arr[i]?) (.slice none 0 0) (.int .i64 0) (.int .i8 0):=⟨arr,ob,hv0,hv1,hv2,fun i _=>rfl⟩;refine .inl ⟨zxe _ w,(bf_first zj6 T (fun i=>arr[i]?) T'.c T'.sh ba 0 w h3 (by rw[hsz];exact fun e=>h0 (Yz e)) Zo).mono fun e w' hq=>?_⟩;obtain⟨rfl,g',hg,⟨cap,cur,lr,⟨cs,hcs,c0,c1,c2,hr⟩,hgr,hlc,hcm,⟨hcs1,hcs2,rfl⟩,htk,hgb⟩,hO⟩:=hq;rw[hba]at c0 hlc htk;rw[Lib.byteCells_length]at c0 hlc htk;rw[hsz];have k0:=(YA.1 c2).1;have hsz2:cs.size=arr.size:=by
   rcases Ya5 cs.size arr.size with h|h|h
   ·have:cs[cs.size]? =arr[cs.size]? :=hr cs.size (.inr Zo);rw[Yr (Yc _),Y6 h]at this;cases this
   ·exact h
   have:cs[arr.size]? =arr[arr.size]? :=hr arr.size (.inr Zo);rw[Y6 h,Yr (Yc _)]at this;cases this
  refine⟨_,_,rfl,Xf rfl fun i x hx=>?_,Post.first (tot:=cur.size) hI hDb hb mb hg (Lib.lt_of_heap hgr) hcs hgr (fun k hk h1=>hO.block k hk h1 h1) hO.size hO.os (tp_of hO.tape) hO.output ?_ ?_⟩
  ·match i,hx with
   |0,hx=>cases hx;exact⟨_,rfl,.int _ _⟩
   |1,hx=>cases hx;exact⟨_,rfl,.nilI⟩
  ·refine .cells (hsz2.trans hs) ?_ fun i x hx=>?_
   ·have:(V.sl H.next 0 s.length 1 none::V.int .i64 0::V.int .i8 0::r).length=3+r.length:=by simp;omega
    rw[this];exact hbd
   match i,hx with
   |0,hx=>cases hx;exact⟨_,c0,.sl (T:=⟨g',0,cur.size⟩) (by simp[G.add]) hlc (fun _=>⟨rfl,by simpa using hcs1⟩) (fun k e=>by cases e)⟩
   |1,hx=>cases hx;exact⟨_,c1,.int _ _⟩
   |2,hx=>cases hx;exact⟨_,c2,.int _ _⟩
   |i+3,hx=>obtain⟨v,hv,rv⟩:=hp (i+3) x hx;have hv':arr[T'.sh+(i+3)]? =some v:=hv;exact⟨v,by show cs[T'.sh+(i+3)]? =_;rw[hr _ (.inr Zo)];exact hv',rv.mono (Xp hI.fresh)⟩
  exact .ty rfl (by simpa using Nat.le_trans hlc hcs1) rfl hcs2 (zph htk)
def write_H {b c d k:Nat}{kc:Option Nat}{r rest:ZA}{l:ZL}(s:ZL){H:Hp}(h0:l≠[])(hl:l.length≤100000000)(hs0:s≠[])(hsl:s.length≤100000000)(hb:H.get b=some (wrB c l.length r))(hc:H.get c=some (bly l))(hd:H.get d=some (.cells (s.map zq++rest)))(hbd':b≠d)(hcd:c≠d)(hk:k=s.length):HCall prog 32 [.ptr b 0,.sl d 0 k 1 kc] H ⟨True,.tup [.int .i64 s.length,.nilI],((H.put b (wrB H.next (l++s).length r)).kill c).new (bly (l++s)),[b,c,d],[b,c]⟩:=by
 refine⟨fun _=>zhc hb hc,fun _ g base D w vs hgl hI hvs hpw hD=>?_⟩;subst hk;have hDb:D b:=hD b Zs;have hDc:D c:=hD c Zs;have hDd:D d:=hD d Zs;obtain⟨u,v,rfl,ru,rv⟩:=argsB hvs hpw;obtain⟨Tb,Tc,T,arr,mb,mc,hs,hbd,hp,hB⟩:=bg_in hI hDb hDc hb hc rfl h0;obtain⟨T',mb',rfl⟩:=ru.inv_ptr;obtain rfl:T'=Tb:=by rw[mb]at mb';exact(Yh mb').symm
 obtain⟨Td,od,cap,md,hlc,hod,_,rfl⟩:=rv.inv_sl;obtain⟨Td',obd,md',_,hhd,rd⟩:=hI.cont d _ hDd hd;obtain rfl:Td'=Td:=by rw[md]at md';exact(Yh md').symm
 have hpos:0<s.length:=Ybr.2 hs0;obtain⟨rfl,_⟩:=hod Zo;have hdb:Td'.c≠T'.c:=fun e=>hbd' (hI.inj b d _ _ _ _ hDb hDd hb hd mb md e.symm);have hdc:Td'.c≠Tc.c:=fun e=>hcd (hI.inj c d _ _ _ _ hDc hDd hc hd mc md e.symm);have hap:Lib.byteCells l++Lib.byteCells s=Lib.byteCells (l++s):=by simp[Lib.byteCells]
 cases rd with
 |@cells _ _ ad Te hsd hbdd hpd=>
  have hsrc:∀j v,(Lib.byteCells s)[j]? =some v→w.cell? ((⟨Td'.c,Td'.sh+0,none⟩:Addr).add j)=some v:=fun j v hj=>by
   have hj':j<s.length:=by have:=(Ys.1 hj).1;rwa [Lib.byteCells_length]at this
   obtain⟨v',hv',r'⟩:=hpd j (zq s[j]) (by rw[YP (by simpa using hj')];simp[hj']);obtain rfl:=VRel.inv_int r';have hj2:v=.int .u8 s[j].toNat:=by rw[Lib.byteCells,YT,Yb hj']at hj;exact(Yh hj).symm
   rw[hj2];have ha:(⟨Td'.c,Td'.sh+0,none⟩:Addr).add j=⟨Td'.c,Td'.sh+j,none⟩:=by simp[Addr.add]
   rw[ha,Lib.cell_of_heap hhd];exact hv'
  refine .inl ⟨call32 _ w,(bf_write laysB180 T (fun i=>arr[i]?) T'.c T'.sh Tc.c (Lib.byteCells l) (Lib.byteCells s) ⟨Td'.c,Td'.sh+0,none⟩ s.length cap w hB (zdU h0) Zo (byteCells_one l) (Lib.byteCells_length s) hdb hdc hsrc (byteCells_one s) (by rw[Lib.byteCells_length];omega)).mono fun e w' hq=>?_⟩;obtain⟨rfl,g',hg,hB',hO⟩:=hq;rw[hap]at hB';obtain⟨g1,p⟩:=zx8 hI hDb hDc hb hc mb mc hs hbd hp hg hB' hO;refine⟨g1,_,rfl,Xf rfl fun i x hx=>?_,p⟩;match i,hx with
  |0,hx=>cases hx;exact⟨_,rfl,.int _ _⟩
  |1,hx=>cases hx;exact⟨_,rfl,.nilI⟩
end Go.Proofs
