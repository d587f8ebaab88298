/- A call that writes one block and moves a row that belongs to it. -/
import Derived.Test.YtbdlfegfepggnaaGreatDoorPk1
import Derived.Laws.BitsAllLaws
set_option linter.all false
set_option maxHeartbeats 16000000
set_option maxRecDepth 100000
noncomputable section
namespace Go.Ab
def Post.first {g:G}{base:Nat}{H:Hp}{D:Nat→Prop}{w w':World}(h:Inv g base H D w){b:Nat}{x y z:Blk}{Tb:Tgt}{ob oc:Obj}{gn tot:Nat} (hDb:D b) (hb:H.get b=some x) (hmb:g.mu b=some Tb) (hg:w.heap.size≤gn) (hgs:gn<w'.heap.size) (hnb:w'.heap[Tb.c]? =some ob) (hng:w'.heap[gn]? =some oc) (hold:∀k,k<w.heap.size→k≠Tb.c→w'.heap[k]? =w.heap[k]?) (hs:w.heap.size≤w'.heap.size) (ho:w'.os=w.os) (ht:Tp w w') (hu:w'.output=w.output) (hrb:BlkRel (g.add H.next ⟨gn,0,tot⟩) y Tb ob) (hrc:BlkRel (g.add H.next ⟨gn,0,tot⟩) z ⟨gn,0,tot⟩ oc):Post g (g.add H.next ⟨gn,0,tot⟩) base H ((H.put b y).new z) D [b] w w':=by
 have hle:g.le (g.add H.next ⟨gn,0,tot⟩):=Xr h.fresh;obtain⟨_,_,eb,pb,_,_⟩:=h.cont b x hDb hb;have e1:=Yj (eb.symm.trans hmb);subst e1;have hbn:=h.keys b x hb;have own:∀k T,(g.add H.next ⟨gn,0,tot⟩).mu k=some T→(k=H.next∧T=⟨gn,0,tot⟩)∨(k≠H.next∧g.mu k=some T):=by
  intro k T e;simp only[G.add]at e;split at e
  ·rename_i hk;cases e;exact .inl ⟨hk,rfl⟩
  rename_i hk;exact .inr ⟨hk,e⟩
 have hget:∀k x',((H.put b y).new z).get k=some x'→(k=H.next∧x'=z)∨(k≠H.next∧k=b∧x'=y)∨(k≠H.next∧k≠b∧H.get k=some x'):=by
  intro k x' e;rw[Xd]at e;split at e
  ·rename_i hk;cases e;exact .inl ⟨hk,rfl⟩
  rename_i hk;rw[Xe]at e;split at e
  ·rename_i hkb;subst hkb;rw[hb]at e;cases e;exact .inr (.inl ⟨hk,rfl,rfl⟩)
  rename_i hkb;exact .inr (.inr ⟨hk,hkb,e⟩)
 have hpg:g.phi gn=none:=by
  cases hp:g.phi gn with
  |none=>rfl
  |some a=>exact absurd (h.below_phi hp) Zo
 refine⟨hle,⟨?_,?_,?_,?_,?_,Ys h.base hs⟩,?_,fun c a e=>.inl e,?_,hs,ho,ht,hu,?_,Ybt _⟩
 ·intro c a e;have e':g.phi c=some a:=e;rw[hold c (h.below_phi e') (fun k=>by rw[k,pb]at e';cases e')];exact h.frz c a e'
 ·intro k T e;rcases own k T e with⟨rfl,rfl⟩|⟨_,e⟩
  ·exact⟨Yz _,Ys h.base hg,hgs⟩
  obtain⟨q1,q2,q3⟩:=h.dom k T e;exact⟨Yaz q1,q2,Yu q3 hs⟩
 ·intro k x' e;rcases hget k x' e with⟨rfl,_⟩|⟨_,rfl,_⟩|⟨_,_,e⟩
  ·exact Yz _
  ·exact Yaz hbn
  exact Yaz (h.keys k x' e)
 ·intro k x' hd e;rcases hget k x' e with⟨rfl,rfl⟩|⟨_,rfl,rfl⟩|⟨hn,hkb,e⟩
  ·exact⟨⟨gn,0,tot⟩,oc,by simp[G.add],hpg,hng,hrc⟩
  ·exact⟨_,ob,hle.1 _ _ hmb,pb,hnb,hrb⟩
  have hlt:=h.keys k x' e;have hDk:=hd.resolve_right Zo;obtain⟨T,o',e1,e2,e3,e4⟩:=h.cont k x' hDk e;refine⟨T,o',hle.1 _ _ e1,e2,?_,e4.mono hle⟩;rw[hold _ (h.dom k T e1).2.2 (fun q=>hkb (h.inj k b x' x T _ hDk hDb e hb e1 hmb q))];exact e3
 ·intro k k' x1 x2 T T' hd hd' e e' m m' ec;rcases own k T m with⟨rfl,rfl⟩|⟨hk,m⟩<;>rcases own k' T' m' with⟨rfl,rfl⟩|⟨hk',m'⟩
  ·rfl
  ·have:=(h.dom k' T' m').2.2;simp at ec;omega
  ·have:=(h.dom k T m).2.2;simp at ec;omega
  have live:∀k x1,k≠H.next→(D k∨H.next≤k)→((H.put b y).new z).get k=some x1→D k∧∃x3,H.get k=some x3:=by
   intro k x1 hk hd e;rcases hget k x1 e with⟨h1,_⟩|⟨_,rfl,_⟩|⟨_,_,e⟩
   ·exact absurd h1 hk
   ·exact⟨hDb,x,hb⟩
   exact⟨hd.resolve_right (by have:=h.keys k x1 e;omega),x1,e⟩
  obtain⟨d1,x3,e3⟩:=live k x1 hk hd e;obtain⟨d2,x4,e4⟩:=live k' x2 hk' hd' e';exact h.inj k k' x3 x4 T T' d1 d2 e3 e4 m m' ec
 ·intro k T e;rcases own k T e with⟨rfl,rfl⟩|⟨_,e⟩
  ·exact .inr ⟨Yc _,.inl hg⟩
  exact .inl e
 ·intro k hk hw;exact hold k hk (fun q=>hw b Zs _ hmb q.symm)
 intro k hk hw;have h1:k≠b:=by simpa using hw
 rw[Xd,Yh (show ¬k=(H.put b y).next from Nat.ne_of_lt hk),Xe,Yh h1]
def XI {g:G}{base:Nat}{H:Hp}{D:Nat→Prop}{w w':World}(h:Inv g base H D w){b c:Nat}{x r y z:Blk}{Tb Tc:Tgt}{ob oc:Obj}{gn tot:Nat} (hne:b≠c) (hDb:D b) (hDc:D c) (hb:H.get b=some x) (hc:H.get c=some r) (hmb:g.mu b=some Tb) (hmc:g.mu c=some Tc) (hg:gn=Tc.c∨w.heap.size≤gn) (hgs:gn<w'.heap.size) (hnb:w'.heap[Tb.c]? =some ob) (hng:w'.heap[gn]? =some oc) (hold:∀k,k<w.heap.size→k≠Tb.c→k≠Tc.c→w'.heap[k]? =w.heap[k]?) (hs:w.heap.size≤w'.heap.size) (ho:w'.os=w.os) (ht:Tp w w') (hu:w'.output=w.output) (hrb:BlkRel (g.add H.next ⟨gn,0,tot⟩) y Tb ob) (hrc:BlkRel (g.add H.next ⟨gn,0,tot⟩) z ⟨gn,0,tot⟩ oc):Post g (g.add H.next ⟨gn,0,tot⟩) base H (((H.put b y).kill c).new z) D [b,c] w w':=by
 have hle:g.le (g.add H.next ⟨gn,0,tot⟩):=Xr h.fresh;obtain⟨_,_,eb,pb,_,_⟩:=h.cont b x hDb hb;obtain⟨_,_,ec0,pc,_,_⟩:=h.cont c r hDc hc;have e1:=Yj (eb.symm.trans hmb);subst e1;have e2:=Yj (ec0.symm.trans hmc);subst e2;have hbn:=h.keys b x hb;have hcn:=h.keys c r hc;have own:∀k T,(g.add H.next ⟨gn,0,tot⟩).mu k=some T→(k=H.next∧T=⟨gn,0,tot⟩)∨(k≠H.next∧g.mu k=some T):=by
  intro k T e;simp only[G.add]at e;split at e
  ·rename_i hk;cases e;exact .inl ⟨hk,rfl⟩
  rename_i hk;exact .inr ⟨hk,e⟩
 have hget:∀k x',(((H.put b y).kill c).new z).get k=some x'→(k=H.next∧x'=z)∨(k≠H.next∧k=b∧x'=y)∨(k≠H.next∧k≠b∧k≠c∧H.get k=some x'):=by
  intro k x' e;rw[Xd]at e;split at e
  ·rename_i hk;cases e;exact .inl ⟨hk,rfl⟩
  rename_i hk;rw[Xg]at e;split at e
  ·cases e
  rename_i hkc;rw[Xe]at e;split at e
  ·rename_i hkb;subst hkb;rw[hb]at e;cases e;exact .inr (.inl ⟨hk,rfl,rfl⟩)
  rename_i hkb;exact .inr (.inr ⟨hk,hkb,hkc,e⟩)
 have hpg:g.phi gn=none:=by
  rcases hg with rfl|hg
  ·exact pc
  cases hp:g.phi gn with
  |none=>rfl
  |some a=>exact absurd (h.below_phi hp) Zo
 refine⟨hle,⟨?_,?_,?_,?_,?_,Ys h.base hs⟩,?_,fun c a e=>.inl e,?_,hs,ho,ht,hu,?_,Ybt _⟩
 ·intro k a e;have e':g.phi k=some a:=e;rw[hold k (h.below_phi e') (fun q=>by rw[q,pb]at e';cases e') (fun q=>by rw[q,pc]at e';cases e')];exact h.frz k a e'
 ·intro k T e;rcases own k T e with⟨rfl,rfl⟩|⟨_,e⟩
  ·refine⟨Yz _,?_,hgs⟩;rcases hg with rfl|hg
   ·exact(h.dom c _ hmc).2.1
   exact Ys h.base hg
  obtain⟨q1,q2,q3⟩:=h.dom k T e;exact⟨Yaz q1,q2,Yu q3 hs⟩
 ·intro k x' e;rcases hget k x' e with⟨rfl,_⟩|⟨_,rfl,_⟩|⟨_,_,_,e⟩
  ·exact Yz _
  ·exact Yaz hbn
  exact Yaz (h.keys k x' e)
 ·intro k x' hd e;rcases hget k x' e with⟨rfl,rfl⟩|⟨_,rfl,rfl⟩|⟨hn,hkb,hkc,e⟩
  ·exact⟨⟨gn,0,tot⟩,oc,by simp[G.add],hpg,hng,hrc⟩
  ·exact⟨_,ob,hle.1 _ _ hmb,pb,hnb,hrb⟩
  have hlt:=h.keys k x' e;have hDk:=hd.resolve_right Zo;obtain⟨T,o',e1,e2,e3,e4⟩:=h.cont k x' hDk e;refine⟨T,o',hle.1 _ _ e1,e2,?_,e4.mono hle⟩;rw[hold _ (h.dom k T e1).2.2 (fun q=>hkb (h.inj k b x' x T _ hDk hDb e hb e1 hmb q)) (fun q=>hkc (h.inj k c x' r T _ hDk hDc e hc e1 hmc q))];exact e3
 ·intro k k' x1 x2 T T' hd hd' e e' m m' ec;have live:∀k x1,k≠H.next→(D k∨H.next≤k)→(((H.put b y).kill c).new z).get k=some x1→D k∧k≠c∧∃x3,H.get k=some x3:=by
   intro k x1 hk hd e;rcases hget k x1 e with⟨h1,_⟩|⟨_,rfl,_⟩|⟨_,_,hkc,e⟩
   ·exact absurd h1 hk
   ·exact⟨hDb,hne,x,hb⟩
   exact⟨hd.resolve_right (by have:=h.keys k x1 e;omega),hkc,x1,e⟩
  have far:∀k x1 T,k≠H.next→(D k∨H.next≤k)→(((H.put b y).kill c).new z).get k=some x1→g.mu k=some T→T.c≠gn:=by
   intro k x1 T hk hd e m q;obtain⟨d1,hkc,x3,e3⟩:=live k x1 hk hd e;rcases hg with hg|hg
   ·exact hkc (h.inj k c x3 r T _ d1 hDc e3 hc m hmc (q.trans hg))
   have:=(h.dom k T m).2.2;omega
  rcases own k T m with⟨rfl,rfl⟩|⟨hk,m⟩<;>rcases own k' T' m' with⟨rfl,rfl⟩|⟨hk',m'⟩
  ·rfl
  ·exact absurd ec.symm (far k' x2 T' hk' hd' e' m')
  ·exact absurd ec (far k x1 T hk hd e m)
  obtain⟨d1,_,x3,e3⟩:=live k x1 hk hd e;obtain⟨d2,_,x4,e4⟩:=live k' x2 hk' hd' e';exact h.inj k k' x3 x4 T T' d1 d2 e3 e4 m m' ec
 ·intro k T e;rcases own k T e with⟨rfl,rfl⟩|⟨_,e⟩
  ·refine .inr ⟨Yc _,?_⟩;rcases hg with rfl|hg
   ·exact .inr ⟨c,Zs,_,hmc,rfl⟩
   exact .inl hg
  exact .inl e
 ·intro k hk hw;exact hold k hk (fun q=>hw b Zs _ hmb q.symm) (fun q=>hw c Zs _ hmc q.symm)
 intro k hk hw;have h1:k≠b∧k≠c:=by simpa using hw
 rw[Xd,Yh (show ¬k=((H.put b y).kill c).next from Nat.ne_of_lt hk),Xg,Yh h1.2,Xe,Yh h1.1]
end Go.Ab

namespace Go.Proofs
open Tryz Go.Ab Go.Pl Go.Shelf Go.RowKit
def wrB(c n:Nat)(r:ZA):Blk:=.cells (.sl c 0 n 1 none::.int .i64 0::.int .i8 0::r)
def wr0(r:ZA):Blk:=.cells (.nilS::.int .i64 0::.int .i8 0::r)
def tp_of {w w':World}(h:w'.tape=w.tape):Tp w w':=⟨h,Yc _⟩
def byteCells_one(l:ZL):∀v∈Lib.byteCells l,v.oneCell'=true:=fun v h=>by obtain⟨c,_,rfl⟩:=Yab.1 h;rfl
def zey {l:ZL}(h:l≠[]):¬(Lib.byteCells l).length=0:=by rw[Lib.byteCells_length];exact fun e=>h (YB e)
def row_take {g:G}{l:ZL}{cur:Array Value}(h:PW g (l.map zt) (fun i=>cur[i]?)):cur.toList.take l.length=Lib.byteCells l:=by
 apply Ya7;intro i;rw[Ybh];split
 ·rename_i hi;obtain⟨v,hv,r⟩:=h i (zt l[i]) (by simp[hi]);obtain rfl:=VRel.inv_int r;have hv':cur[i]? =_:=hv;rw[YE,hv'];simp[Lib.byteCells,hi]
 rename_i hi;rw[Yr (by rw[Lib.byteCells_length];omega)]
def zq2 {g:G}{l:ZL}{cur:Array Value}(h:cur.toList.take l.length=Lib.byteCells l):PW g (l.map zt) (fun i=>cur[i]?):=by
 intro i x hx;obtain⟨c,hc,rfl⟩:∃c,l[i]? =some c∧zt c=x:=by simpa[YX,YaM]using hx
 have hi:=(Yt.1 hc).1;refine⟨.int .u8 c.toNat,?_,.int _ _⟩;have h1:(cur.toList.take l.length)[i]? =some (.int .u8 c.toNat):=by rw[h];simp[Lib.byteCells,hc]
 rw[Ybh,Yi hi,YE]at h1;exact h1
section
variable {g:G}{base:Nat}{H:Hp}{D:Nat→Prop}{w:World}
def wr_ne {b c n:Nat}{r:ZA}{l:ZL}(hb:H.get b=some (wrB c n r))(hc:H.get c=some (bly l)):b≠c:=by rintro rfl;rw[hb]at hc;cases hc
def bg_in(hI:Inv g base H D w){b c n:Nat}{r:ZA}{l:ZL}(hDb:D b)(hDc:D c)(hb:H.get b=some (wrB c n r))(hc:H.get c=some (bly l))(hn:n=l.length)(h0:l≠[]):∃(Tb Tc:Tgt)(T:TypeId)(arr:Array Value),g.mu b=some Tb∧g.mu c=some Tc∧arr.size=Tb.tot∧Tb.sh+(3+r.length)≤Tb.tot∧PW g r (fun i=>arr[Tb.sh+(3+i)]?)∧Bg T 5 (fun i=>arr[i]?) Tb.c Tb.sh Tc.c (Lib.byteCells l).length (Lib.byteCells l) w:=by
 have hne:=wr_ne hb hc;obtain⟨Tb,o,mb,pb,ob,rb⟩:=hI.cont b _ hDb hb;obtain⟨Tc,o',mc,pc,oc,rc⟩:=hI.cont c _ hDc hc;have hcc:Tc.c≠Tb.c:=fun e=>hne (hI.inj b c _ _ Tb Tc hDb hDc hb hc mb mc e.symm);subst hn;have hmx:=rc.ty_mx;obtain⟨cur,rfl,hsz,hbd',hsh,hpw⟩:=rc.ty_row;unfold wrB at rb;cases rb with
 |@cells _ _ arr T hs hbd hp=>
  obtain⟨v0,hv0,r0⟩:=hp 0 _ rfl;obtain⟨v1,hv1,r1⟩:=hp 1 _ rfl;obtain⟨v2,hv2,r2⟩:=hp 2 _ rfl;obtain rfl:=VRel.inv_int r1;obtain rfl:=VRel.inv_int r2;obtain⟨T',ofs,cap,mc',hl,ho,hk,rfl⟩:=r0.inv_sl;obtain rfl:T'=Tc:=by rw[mc]at mc';exact(Yj mc').symm
  have hpos:0<l.length:=Ybx.2 h0;obtain⟨rfl,hcap⟩:=ho Zo;have hlen:(V.sl c 0 l.length 1 none::V.int .i64 0::V.int .i8 0::r).length=3+r.length:=by simp;omega
  rw[hlen]at hbd;rw[hsh]at hcap;refine⟨Tb,T',T,arr,mb,mc,hs,hbd,fun i x hx=>?_,cap,cur,0,⟨arr,ob,?_,hv1,hv2,fun i _=>rfl⟩,oc,?_,Zo,⟨Zo,Zo,rfl⟩,?_,hcc⟩
  ·exact hp (3+i) x (by rw[show 3+i=i+1+1+1 by omega];exact hx)
  ·rw[Lib.byteCells_length];have hv0':arr[Tb.sh]? =some (.slice (some ⟨T'.c,T'.sh+0,none⟩) l.length cap):=hv0;rw[hv0',hsh]
  ·rw[Lib.byteCells_length];exact hl
  rw[Lib.byteCells_length];exact row_take (hpw.congr fun i _=>by rw[hsh,Yan])
def zAO(hI:Inv g base H D w){b c n:Nat}{r:ZA}{l l':ZL}(hDb:D b)(hDc:D c)(hb:H.get b=some (wrB c n r))(hc:H.get c=some (bly l)) {Tb Tc:Tgt} {T:TypeId} {arr:Array Value} (mb:g.mu b=some Tb) (mc:g.mu c=some Tc) (hs:arr.size=Tb.tot) (hbd:Tb.sh+(3+r.length)≤Tb.tot) (hp:PW g r (fun i=>arr[Tb.sh+(3+i)]?)) {g':Nat} {w':World} (hg:g'=Tc.c∨w.heap.size≤g') (hB:Bg T 5 (fun i=>arr[i]?) Tb.c Tb.sh g' (Lib.byteCells l').length (Lib.byteCells l') w') (hO:Oth Tb.c Tc.c w w'):∃g1,Post g g1 base H (((H.put b (wrB H.next l'.length r)).kill c).new (bly l')) D [b,c] w w':=by
 obtain⟨cap,cur,lr,⟨cs,hcs,c0,c1,c2,hr⟩,hgr,hlc,hcm,⟨hcs1,hcs2,rfl⟩,htk,hgb⟩:=hB;rw[Lib.byteCells_length]at c0 hlc htk;have hne:=wr_ne hb hc;have k0:=(YF.1 c2).1;have hsz:cs.size=arr.size:=by
  rcases Ybb cs.size arr.size with h|h|h
  ·have:cs[cs.size]? =arr[cs.size]? :=hr cs.size (.inr Zo);rw[Yv (Yc _),Yaj h]at this;cases this
  ·exact h
  have:cs[arr.size]? =arr[arr.size]? :=hr arr.size (.inr Zo);rw[Yaj h,Yv (Yc _)]at this;cases this
 refine⟨_,XI (tot:=cur.size) hI hne hDb hDc hb hc mb mc hg (Lib.lt_of_heap hgr) hcs hgr hO.block hO.size hO.os (tp_of hO.tape) hO.output ?_ ?_⟩
 ·refine .cells (hsz.trans hs) ?_ fun i x hx=>?_
  ·have:(V.sl H.next 0 l'.length 1 none::V.int .i64 0::V.int .i8 0::r).length=3+r.length:=by simp;omega
   rw[this];exact hbd
  match i,hx with
  |0,hx=>cases hx;exact⟨_,c0,.sl (T:=⟨g',0,cur.size⟩) (by simp[G.add]) hlc (fun _=>⟨rfl,by simpa using hcs1⟩) (fun k e=>by cases e)⟩
  |1,hx=>cases hx;exact⟨_,c1,.int _ _⟩
  |2,hx=>cases hx;exact⟨_,c2,.int _ _⟩
  |i+3,hx=>obtain⟨v,hv,rv⟩:=hp i x hx;have hv':arr[Tb.sh+(3+i)]? =some v:=hv;exact⟨v,by show cs[Tb.sh+(i+3)]? =_;rw[hr _ (.inr Zo),Nat.add_comm i 3];exact hv',rv.mono (Xr hI.fresh)⟩
 exact .ty rfl (by simpa using Nat.le_trans hlc hcs1) rfl hcs2 (zq2 htk)
def zhX {b c:Nat}{x r y z:Blk}(hb:H.get b=some x)(hc:H.get c=some r):Ab.Stat H (((H.put b y).kill c).new z) [b,c]:=by
 refine⟨Ybt _,fun k hk hw=>?_,fun k hk=>?_,fun hk k x' e=>?_⟩
 ·have h1:k≠b∧k≠c:=by simpa using hw
  rw[Xd,Yh (show ¬k=((H.put b y).kill c).next from Nat.ne_of_lt hk),Xg,Yh h1.2,Xe,Yh h1.1]
 ·have h1:k=b∨k=c:=by simpa using hk
  rcases h1 with rfl|rfl
  ·exact⟨_,hb⟩
  exact⟨_,hc⟩
 show k<H.next+1;rw[Xd]at e;split at e
 ·rename_i h;rw[h];exact Yz _
 rw[Xg]at e;split at e
 ·cases e
 rw[Xe]at e;split at e
 ·rename_i h;subst h;exact Yaz (hk _ _ hb)
 exact Yaz (hk _ _ e)
end
def argsB {g:G}{x y:V}{vs:Array Value}(hvs:vs.size=2)(hpw:PW g [x,y] (fun i=>vs[i]?)):∃u v,vs=#[u,v]∧VRel g x u∧VRel g y v:=by
 obtain⟨u,hu,ru⟩:=hpw 0 _ rfl;obtain⟨v,hv,rv⟩:=hpw 1 _ rfl;refine⟨u,v,?_,ru,rv⟩;apply YaD;intro i;match i with
 |0=>exact hu
 |1=>exact hv
 |i+2=>rw[Yv Zo,Yv Zs]
def wbyte_H {b c:Nat}{r:ZA}{l:ZL}(x:UInt8){H:Hp}(h0:l≠[])(hl:l.length≤100000000)(hb:H.get b=some (wrB c l.length r))(hc:H.get c=some (bly l)):HCall prog 25 [.ptr b 0,zt x] H ⟨True,.nilI,((H.put b (wrB H.next (l++[x]).length r)).kill c).new (bly (l++[x])),[b,c],[b,c]⟩:=by
 refine⟨fun _=>zhX hb hc,fun _ g base D w vs hgl hI hvs hpw hD=>?_⟩;have hDb:D b:=hD b Zs;have hDc:D c:=hD c Zs;obtain⟨u,v,rfl,ru,rv⟩:=argsB hvs hpw;obtain⟨Tb,Tc,T,arr,mb,mc,hs,hbd,hp,hB⟩:=bg_in hI hDb hDc hb hc rfl h0;obtain⟨T',mb',rfl⟩:=ru.inv_ptr;obtain rfl:T'=Tb:=by rw[mb]at mb';exact(Yj mb').symm
 obtain rfl:=VRel.inv_int rv;refine .inl ⟨call25 _ w,(bf_byte laysB179 T (fun i=>arr[i]?) T'.c T'.sh Tc.c (Lib.byteCells l) x.toNat w hB (zey h0) (byteCells_one l) (by rw[Lib.byteCells_length];omega)).mono fun e w' hq=>?_⟩;obtain⟨rfl,g',hg,hB',hO⟩:=hq;have hap:Lib.byteCells l++[Value.int .u8 x.toNat]=Lib.byteCells (l++[x]):=by simp[Lib.byteCells]
 rw[hap]at hB';obtain⟨g1,p⟩:=zAO hI hDb hDc hb hc mb mc hs hbd hp hg hB' hO;exact⟨g1,_,rfl,.nilI,p⟩
def wstr_H {b c:Nat}{r:ZA}{l:ZL}(s:ZL){H:Hp}(h0:l≠[])(hl:l.length≤100000000)(hsl:s.length≤100000000)(hb:H.get b=some (wrB c l.length r))(hc:H.get c=some (bly l)):HCall prog 24 [.ptr b 0,.str s] H ⟨True,.tup [.int .i64 s.length,.nilI],((H.put b (wrB H.next (l++s).length r)).kill c).new (bly (l++s)),[b,c],[b,c]⟩:=by
 refine⟨fun _=>zhX hb hc,fun _ g base D w vs hgl hI hvs hpw hD=>?_⟩;have hDb:D b:=hD b Zs;have hDc:D c:=hD c Zs;obtain⟨u,v,rfl,ru,rv⟩:=argsB hvs hpw;obtain⟨Tb,Tc,T,arr,mb,mc,hs,hbd,hp,hB⟩:=bg_in hI hDb hDc hb hc rfl h0;obtain⟨T',mb',rfl⟩:=ru.inv_ptr;obtain rfl:T'=Tb:=by rw[mb]at mb';exact(Yj mb').symm
 obtain⟨ba,rfl,hba⟩:=rv.inv_str;have hsz:ba.size=s.length:=by rw[←hba];rfl
 have hap:Lib.byteCells l++Lib.byteCells ba.data.toList=Lib.byteCells (l++s):=by rw[hba];simp[Lib.byteCells]
 have fin:∀ {e:Ending} {w':World},(e=.returned (.tuple #[.int .i64 s.length,.nilIface])∧∃g',(g'=Tc.c∨w.heap.size≤g')∧Bg T 5 (fun i=>arr[i]?) T'.c T'.sh g' (Lib.byteCells (l++s)).length (Lib.byteCells (l++s)) w'∧Oth T'.c Tc.c w w')→
  ∃g' vc,e=.returned vc∧VRel g' (.tup [.int .i64 s.length,.nilI]) vc∧Post g g' base H (((H.put b (wrB H.next (l++s).length r)).kill c).new (bly (l++s))) D [b,c] w w':=by
  rintro e w' ⟨rfl,g',hg,hB',hO⟩
  obtain⟨g1,p⟩:=zAO hI hDb hDc hb hc mb mc hs hbd hp hg hB' hO
  refine⟨g1,_,rfl,Xf rfl fun i x hx=>?_,p⟩
  match i,hx with
  |0,hx=>cases hx;exact⟨_,rfl,.int _ _⟩
  |1,hx=>cases hx;exact⟨_,rfl,.nilI⟩
 by_cases hs0:s=[]
 ·subst hs0;refine .inl ⟨zzH _ w,(bf_empty zla T (fun i=>arr[i]?) T'.c T'.sh Tc.c (Lib.byteCells l) ba w hB hsz).mono fun e w' hq=>fin ?_⟩;obtain⟨rfl,hB',hO⟩:=hq;rw[Y7];exact⟨rfl,Tc.c,.inl rfl,hB',hO⟩
 refine .inl ⟨zzH _ w,(zAP zla T (fun i=>arr[i]?) T'.c T'.sh Tc.c (Lib.byteCells l) ba w hB (zey h0) (by rw[hsz];exact fun e=>hs0 (YB e)) (byteCells_one l) (by rw[Lib.byteCells_length,hsz];omega)).mono fun e w' hq=>fin ?_⟩;obtain⟨rfl,g',hg,hB',hO⟩:=hq;rw[hap]at hB';rw[hsz];exact⟨rfl,g',hg,hB',hO⟩
def wfirst_H {b:Nat}{r:ZA}(s:ZL){H:Hp}(h0:s≠[])(hsl:s.length≤64)(hb:H.get b=some (wr0 r)):HCall prog 24 [.ptr b 0,.str s] H ⟨True,.tup [.int .i64 s.length,.nilI],(H.put b (wrB H.next s.length r)).new (bly s),[b],[b]⟩:=by
 refine⟨fun _=>?_,fun _ g base D w vs hgl hI hvs hpw hD=>?_⟩
 ·refine⟨Ybt _,fun k hk hw=>?_,fun k hk=>?_,fun hk k x' e=>?_⟩
  ·have h1:k≠b:=by simpa using hw
   rw[Xd,Yh (show ¬k=(H.put b _).next from Nat.ne_of_lt hk),Xe,Yh h1]
  ·have h1:k=b:=by simpa using hk
   exact⟨_,h1▸hb⟩
  show k<H.next+1;rw[Xd]at e;split at e
  ·rename_i h;rw[h];exact Yz _
  rw[Xe]at e;split at e
  ·rename_i h;subst h;exact Yaz (hk _ _ hb)
  exact Yaz (hk _ _ e)
 have hDb:D b:=hD b Zs;obtain⟨u,v,rfl,ru,rv⟩:=argsB hvs hpw;obtain⟨Tb,mb,rfl⟩:=ru.inv_ptr;obtain⟨ba,rfl,hba⟩:=rv.inv_str;have hsz:ba.size=s.length:=by rw[←hba];rfl
 obtain⟨T',o,mb',pb,ob,rb⟩:=hI.cont b _ hDb hb;obtain rfl:T'=Tb:=by rw[mb]at mb';exact(Yj mb').symm
 unfold wr0 at rb;cases rb with
 |@cells _ _ arr T hs hbd hp=>
  obtain⟨v0,hv0,r0⟩:=hp 0 _ rfl;obtain⟨v1,hv1,r1⟩:=hp 1 _ rfl;obtain⟨v2,hv2,r2⟩:=hp 2 _ rfl;obtain rfl:=VRel.inv_int r1;obtain rfl:=VRel.inv_int r2;have e0:v0=.slice none 0 0:=by cases r0;rfl
  subst e0;have hlen:(V.nilS::V.int .i64 0::V.int .i8 0::r).length=3+r.length:=by simp;omega
  rw[hlen]at hbd;have h3:LibA.Three w T'.c T'.sh T (fun i=>arr[i]?) (.slice none 0 0) (.int .i64 0) (.int .i8 0):=⟨arr,ob,hv0,hv1,hv2,fun i _=>rfl⟩;refine .inl ⟨zzH _ w,(bf_first zla T (fun i=>arr[i]?) T'.c T'.sh ba 0 w h3 (by rw[hsz];exact fun e=>h0 (YB e)) Zo).mono fun e w' hq=>?_⟩;obtain⟨rfl,g',hg,⟨cap,cur,lr,⟨cs,hcs,c0,c1,c2,hr⟩,hgr,hlc,hcm,⟨hcs1,hcs2,rfl⟩,htk,hgb⟩,hO⟩:=hq;rw[hba]at c0 hlc htk;rw[Lib.byteCells_length]at c0 hlc htk;rw[hsz];have k0:=(YF.1 c2).1;have hsz2:cs.size=arr.size:=by
   rcases Ybb cs.size arr.size with h|h|h
   ·have:cs[cs.size]? =arr[cs.size]? :=hr cs.size (.inr Zo);rw[Yv (Yc _),Yaj h]at this;cases this
   ·exact h
   have:cs[arr.size]? =arr[arr.size]? :=hr arr.size (.inr Zo);rw[Yaj h,Yv (Yc _)]at this;cases this
  refine⟨_,_,rfl,Xf rfl fun i x hx=>?_,Post.first (tot:=cur.size) hI hDb hb mb hg (Lib.lt_of_heap hgr) hcs hgr (fun k hk h1=>hO.block k hk h1 h1) hO.size hO.os (tp_of hO.tape) hO.output ?_ ?_⟩
  ·match i,hx with
   |0,hx=>cases hx;exact⟨_,rfl,.int _ _⟩
   |1,hx=>cases hx;exact⟨_,rfl,.nilI⟩
  ·refine .cells (hsz2.trans hs) ?_ fun i x hx=>?_
   ·have:(V.sl H.next 0 s.length 1 none::V.int .i64 0::V.int .i8 0::r).length=3+r.length:=by simp;omega
    rw[this];exact hbd
   match i,hx with
   |0,hx=>cases hx;exact⟨_,c0,.sl (T:=⟨g',0,cur.size⟩) (by simp[G.add]) hlc (fun _=>⟨rfl,by simpa using hcs1⟩) (fun k e=>by cases e)⟩
   |1,hx=>cases hx;exact⟨_,c1,.int _ _⟩
   |2,hx=>cases hx;exact⟨_,c2,.int _ _⟩
   |i+3,hx=>obtain⟨v,hv,rv⟩:=hp (i+3) x hx;have hv':arr[T'.sh+(i+3)]? =some v:=hv;exact⟨v,by show cs[T'.sh+(i+3)]? =_;rw[hr _ (.inr Zo)];exact hv',rv.mono (Xr hI.fresh)⟩
  exact .ty rfl (by simpa using Nat.le_trans hlc hcs1) rfl hcs2 (zq2 htk)
def write_H {b c d k:Nat}{kc:Option Nat}{r rest:ZA}{l:ZL}(s:ZL){H:Hp}(h0:l≠[])(hl:l.length≤100000000)(hs0:s≠[])(hsl:s.length≤100000000)(hb:H.get b=some (wrB c l.length r))(hc:H.get c=some (bly l))(hd:H.get d=some (.cells (s.map zt++rest)))(hbd':b≠d)(hcd:c≠d)(hk:k=s.length):HCall prog 32 [.ptr b 0,.sl d 0 k 1 kc] H ⟨True,.tup [.int .i64 s.length,.nilI],((H.put b (wrB H.next (l++s).length r)).kill c).new (bly (l++s)),[b,c,d],[b,c]⟩:=by
 refine⟨fun _=>zhX hb hc,fun _ g base D w vs hgl hI hvs hpw hD=>?_⟩;subst hk;have hDb:D b:=hD b Zs;have hDc:D c:=hD c Zs;have hDd:D d:=hD d Zs;obtain⟨u,v,rfl,ru,rv⟩:=argsB hvs hpw;obtain⟨Tb,Tc,T,arr,mb,mc,hs,hbd,hp,hB⟩:=bg_in hI hDb hDc hb hc rfl h0;obtain⟨T',mb',rfl⟩:=ru.inv_ptr;obtain rfl:T'=Tb:=by rw[mb]at mb';exact(Yj mb').symm
 obtain⟨Td,od,cap,md,hlc,hod,_,rfl⟩:=rv.inv_sl;obtain⟨Td',obd,md',_,hhd,rd⟩:=hI.cont d _ hDd hd;obtain rfl:Td'=Td:=by rw[md]at md';exact(Yj md').symm
 have hpos:0<s.length:=Ybx.2 hs0;obtain⟨rfl,_⟩:=hod Zo;have hdb:Td'.c≠T'.c:=fun e=>hbd' (hI.inj b d _ _ _ _ hDb hDd hb hd mb md e.symm);have hdc:Td'.c≠Tc.c:=fun e=>hcd (hI.inj c d _ _ _ _ hDc hDd hc hd mc md e.symm);have hap:Lib.byteCells l++Lib.byteCells s=Lib.byteCells (l++s):=by simp[Lib.byteCells]
 cases rd with
 |@cells _ _ ad Te hsd hbdd hpd=>
  have hsrc:∀j v,(Lib.byteCells s)[j]? =some v→w.cell? ((⟨Td'.c,Td'.sh+0,none⟩:Addr).add j)=some v:=fun j v hj=>by
   have hj':j<s.length:=by have:=(Yt.1 hj).1;rwa [Lib.byteCells_length]at this
   obtain⟨v',hv',r'⟩:=hpd j (zt s[j]) (by rw[YQ (by simpa using hj')];simp[hj']);obtain rfl:=VRel.inv_int r';have hj2:v=.int .u8 s[j].toNat:=by rw[Lib.byteCells,YX,Yb hj']at hj;exact(Yj hj).symm
   rw[hj2];have ha:(⟨Td'.c,Td'.sh+0,none⟩:Addr).add j=⟨Td'.c,Td'.sh+j,none⟩:=by simp[Addr.add]
   rw[ha,Lib.cell_of_heap hhd];exact hv'
  refine .inl ⟨call32 _ w,(bf_write laysB180 T (fun i=>arr[i]?) T'.c T'.sh Tc.c (Lib.byteCells l) (Lib.byteCells s) ⟨Td'.c,Td'.sh+0,none⟩ s.length cap w hB (zey h0) Zo (byteCells_one l) (Lib.byteCells_length s) hdb hdc hsrc (byteCells_one s) (by rw[Lib.byteCells_length];omega)).mono fun e w' hq=>?_⟩;obtain⟨rfl,g',hg,hB',hO⟩:=hq;rw[hap]at hB';obtain⟨g1,p⟩:=zAO hI hDb hDc hb hc mb mc hs hbd hp hg hB' hO;refine⟨g1,_,rfl,Xf rfl fun i x hx=>?_,p⟩;match i,hx with
  |0,hx=>cases hx;exact⟨_,rfl,.int _ _⟩
  |1,hx=>cases hx;exact⟨_,rfl,.nilI⟩
end Go.Proofs

namespace Go.Proofs
open Tryz Go.Ab Go.Pl Go.Shelf Go.RowKit
def zbJ {π:Nat→Nat}{N:Nat→Prop}(l l':ZL):RnB π N (bly l) (bly l')↔l=l':=by
 refine⟨fun h=>?_,fun h=>h▸zbo l⟩;unfold bly at h;cases h with
 |ty h=>
  apply Ya7;intro i;have h1:=h.1;simp only[Y5]at h1;by_cases hi:i<l.length
  ·have hi':i<l'.length:=Zo;have h2:=h.2 i (zt l[i]) (zt l'[i]) (by simp[hi]) (by simp[hi']);rw[Yb hi,Yb hi'];have h3:zt l[i]=zt l'[i]:=by
    generalize hx:zt l[i]=x at h2;generalize hy:zt l'[i]=y at h2;show x=y;cases h2<;>first|rfl|(simp[zt]at hx)
   have h4:((l[i].toNat:Nat):Int)=(l'[i].toNat:Nat):=by simpa[zt]using h3
   exact YaZ some (YaY.1 Zo)
  rw[Yr Zo,Yr Zo]
def wB(c n:Nat)(last free:Int):Blk:=.cells [.sl c 0 n 1 none,.int .i64 0,.int .i8 0,.int .u8 last,.int .i64 free]
def zqS {c n:Nat}{a b:Int}{c' n':Nat}{a' b':Int}(h:some (wB c n a b)=some (wB c' n' a' b')):c=c'∧n=n'∧a=a'∧b=b':=by simp only[wB,YJ,Blk.cells.injEq,Yw,V.sl.injEq,V.int.injEq,Yaf,Yap]at h;exact⟨h.1.1,h.1.2,h.2.1,h.2.2⟩
def zda {l l':ZL}(h:some (bly l)=some (bly l')):l=l':=by simp only[bly,YJ,Blk.ty.injEq,Yaf]at h;exact zex h
def zsS {π:Nat→Nat}{N:Nat→Prop}{c n:Nat}{a b:Int}(hc:N c):RnB π N (wB c n a b) (wB (π c) n a b):=by
 refine .cells ⟨rfl,fun i x y hx hy=>?_⟩;match i with
 |0=>cases hx;cases hy;exact .sl hc (.inl rfl)
 |1=>cases hx;cases hy;exact .same (.int _ _)
 |2=>cases hx;cases hy;exact .same (.int _ _)
 |3=>cases hx;cases hy;exact .same (.int _ _)
 |4=>cases hx;cases hy;exact .same (.int _ _)
 |i+5=>simp at hx
abbrev Wst:=ZL×Int×Int
def WrR(st:ZL→Int→Int→ZA→Option Wst)(v:V)(args:ZA)(H:Hp)(r:AR):Prop:=
 ∃b c l la fr rest l' la' fr',args=.ptr b 0::rest∧(∀b x,H.get b=some x→b<H.next)∧l≠[]∧H.get b=some (wB c l.length la fr)∧H.get c=some (bly l)∧st l la fr rest=some (l',la',fr')∧
  r=⟨True,v,((H.put b (wB H.next l'.length la' fr')).kill c).new (bly l'),[b,c],[b,c]⟩
def zqO {st:ZL→Int→Int→ZA→Option Wst}{v:V}{args:ZA}{H:Hp}{r r':AR}(h:WrR st v args H r)(h':WrR st v args H r'):r'=r:=by obtain⟨b,c,l,la,fr,rest,l1,la1,fr1,rfl,_,_,hb,hc,hs,rfl⟩:=h;obtain⟨b',c',l',la',fr',rest',l2,la2,fr2,he,_,_,hb',hc',hs',rfl⟩:=h';simp only[Yw,V.ptr.injEq,Yap]at he;obtain⟨rfl,rfl⟩:=he;rw[hb]at hb';obtain⟨rfl,_,rfl,rfl⟩:=zqS hb';rw[hc]at hc';obtain rfl:=zda hc';rw[hs]at hs';cases hs';rfl
def zsP {st:ZL→Int→Int→ZA→Option Wst}{v:V}{b c n:Nat}{l:ZL}{la fr:Int}{rest:ZA}{s':Wst}{bs:ZH}{nx:Nat}(hb:zL bs b=some (wB c n la fr))(hc:zL bs c=some (bly l))(hn:n=l.length)(h0:l≠[]) (hs:st l la fr rest=some s') (hk:((keysB bs).all fun b=>decide (b<nx))=true):conD (WrR st v) (.ptr b 0::rest) ⟨bs,nx⟩=some ⟨True,v,(((⟨bs,nx⟩:Hp).put b (wB nx s'.1.length s'.2.1 s'.2.2)).kill c).new (bly s'.1),[b,c],[b,c]⟩:=by
 subst hn;have hR:WrR st v (.ptr b 0::rest) ⟨bs,nx⟩ ⟨True,v,(((⟨bs,nx⟩:Hp).put b (wB nx s'.1.length s'.2.1 s'.2.2)).kill c).new (bly s'.1),[b,c],[b,c]⟩:=
  ⟨b,c,l,la,fr,rest,s'.1,s'.2.1,s'.2.2,rfl,zaX hk,h0,(zF bs b).trans hb,(zF bs c).trans hc,hs,rfl⟩
 exact zat hR fun r' h'=>zqO hR h'
def zmc {f:FuncId}{st:ZL→Int→Int→ZA→Option Wst}{v:V}(hv:Pure v) (h:∀l la fr rest l' la' fr',l≠[]→st l la fr rest=some (l',la',fr')→(∀x∈rest,Pure x)∧NCall prog f (.ptr 0 0::rest) [wB 1 l.length la fr,bly l] [0,1] v ⟨[(0,wB 2 l'.length la' fr'),(2,bly l')],3⟩):∀args H r,WrR st v args H r→HCall prog f args H r:=by
 rintro args H r ⟨b,c,l,la,fr,rest,l',la',fr',rfl,hk,h0,hb,hc,hs,rfl⟩;obtain⟨hp,hN⟩:=h l la fr rest l' la' fr' h0 hs;have hne:b≠c:=by rintro rfl;rw[hb]at hc;cases hc
 have tb:zu [b,c] H.next b=0:=by unfold zu;rw[Yi (hk b _ hb)];simp
 have tc:zu [b,c] H.next c=1:=by unfold zu;rw[Yi (hk c _ hc)];exact idx1 hne
 have tn:zu [b,c] H.next H.next=2:=by unfold zu;rw[Yh Zo];simp
 refine HCall.of hN [b,c] _ v H (((H.put b (wB H.next l'.length la' fr')).kill c).new (bly l')) rfl (by simpa using hne) (zct (YaW _) rfl hp) (fun i x hx=>?_) (.same hv) (by show H.next+1+2=H.next+3;omega) (fun b' x' hx'=>?_) (fun b' hb' hw=>?_)
 ·match i with
  |0=>cases hx;exact⟨b,_,rfl,hb,zsS (π:=fun i=>[b,c].getD i 0) (c:=1) (Yz _)⟩
  |1=>cases hx;exact⟨c,_,rfl,hc,zbo l⟩
  |i+2=>simp at hx
 ·rw[Xd]at hx';split at hx'
  ·rename_i he;have he':b'=H.next:=he;subst he';cases hx';refine .inr ⟨.inr ⟨Yc _,Yz _⟩,bly l',?_,zbo _⟩;rw[tn];rfl
  rw[Xg]at hx';split at hx'
  ·cases hx'
  rename_i hec;rw[Xe]at hx';split at hx'
  ·rename_i he;subst he;rw[hb]at hx';cases hx';refine .inr ⟨.inl Zs,wB 2 l'.length la' fr',?_,?_⟩
   ·rw[tb];rfl
   have:=zsS (π:=zu [b',c] H.next) (N:=fun b=>b∈[b',c]∨(H.next≤b∧b<H.next+1)) (c:=H.next) (n:=l'.length) (a:=la') (b:=fr') (.inr ⟨Yc _,Yz _⟩);rwa [tn]at this
  rename_i he;exact .inl ⟨hk b' _ hx',by simp[he,hec],hx'⟩
 have h1:b'≠H.next:=Zo;have h2:b'≠b∧b'≠c:=by simpa using hw
 rw[Xd,Yh (show ¬b'=((H.put b _).kill c).next from h1),Xg,Yh h2.2,Xe,Yh h2.1]
def zmq(l:ZL)(la fr:Int):ZA→Option Wst
 |[.int .u8 x]=>if l.length≤100000000∧0≤x∧x<256 then some (l++[UInt8.ofNat x.toNat],la,fr)else none
 |_=>none
def zqR:∀args H r,WrR zmq .nilI args H r→HCall prog 25 args H r:=by
 rintro args H r ⟨b,c,l,la,fr,rest,l',la',fr',rfl,hk,h0,hb,hc,hs,rfl⟩;unfold zmq at hs;split at hs
 ·split at hs
  ·rename_i x hx;cases hs;have:=wbyte_H (UInt8.ofNat x.toNat) h0 hx.1 hb hc;have e:zt (UInt8.ofNat x.toNat)=.int .u8 x:=by
    have h1:(UInt8.ofNat x.toNat).toNat=x.toNat:=by rw[UInt8.toNat_ofNat'];omega
    unfold zt;rw[h1];congr 1;omega
   rw[e]at this;exact this
  cases hs
 cases hs
def stStr(l:ZL)(la fr:Int):ZA→Option Wst
 |[.str s]=>if l.length≤100000000∧s.length≤100000000 then some (l++s,la,fr)else none
 |_=>none
def WsB(args:ZA)(H:Hp)(r:AR):Prop:=∃b s,args=[.ptr b 0,.str s]∧WrR stStr (.tup [.int .i64 s.length,.nilI]) args H r
def zvW:∀args H r,WsB args H r→HCall prog 24 args H r:=by
 rintro args H r ⟨b,s,rfl,b',c,l,la,fr,rest,l',la',fr',he,hk,h0,hb,hc,hs,rfl⟩;simp only[Yw,V.ptr.injEq,Yap]at he;obtain⟨rfl,rfl⟩:=he;unfold stStr at hs;simp only at hs;split at hs
 ·rename_i hx;cases hs;exact wstr_H s h0 hx.1 hx.2 hb hc
 cases hs
def wsB_eq {b c n:Nat}{l s:ZL}{la fr:Int}{bs:ZH}{nx:Nat}(hb:zL bs b=some (wB c n la fr))(hc:zL bs c=some (bly l))(hn:n=l.length)(h0:l≠[])(hl:l.length≤100000000)(hs:s.length≤100000000)(hk:((keysB bs).all fun b=>decide (b<nx))=true):conD WsB [.ptr b 0,.str s] ⟨bs,nx⟩=some ⟨True,.tup [.int .i64 s.length,.nilI],(((⟨bs,nx⟩:Hp).put b (wB nx (l++s).length la fr)).kill c).new (bly (l++s)),[b,c],[b,c]⟩:=by
 subst hn;have hst:stStr l la fr [.str s]=some (l++s,la,fr):=Yi ⟨hl,hs⟩;have hR:WsB [.ptr b 0,.str s] ⟨bs,nx⟩ ⟨True,.tup [.int .i64 s.length,.nilI],(((⟨bs,nx⟩:Hp).put b (wB nx (l++s).length la fr)).kill c).new (bly (l++s)),[b,c],[b,c]⟩:=
  ⟨b,s,rfl,b,c,l,la,fr,_,_,_,_,rfl,zaX hk,h0,(zF bs b).trans hb,(zF bs c).trans hc,hst,rfl⟩
 refine zat hR fun r' h'=>?_;obtain⟨b1,s1,e1,h1⟩:=hR;obtain⟨b2,s2,e2,h2⟩:=h';rw[e1]at e2;simp only[Yw,V.ptr.injEq,V.str.injEq,Yap]at e2;obtain⟨_,rfl⟩:=e2;exact zqO h1 h2
def Δw0:FuncId→ZA→Hp→Option AR:=za8 25 (conD (WrR zmq .nilI)) (za8 24 (conD WsB) noΔ)
def zeS:zaP prog Δw0:=zJ (zV zqR) (zJ (zV zvW) zf)
def zce(b c n:Nat)(l:ZL)(la fr x:Int)(bs:ZH)(nx:Nat)(hb:zL bs b=some (.cells [.sl c 0 n 1 none,.int .i64 0,.int .i8 0,.int .u8 la,.int .i64 fr]))(hc:zL bs c=some (bly l))(hn:n=l.length)(h0:l≠[])(hl:l.length≤100000000)(hx:0≤x∧x<256)(hk:((keysB bs).all fun b=>decide (b<nx))=true):Δw0 25 [.ptr b 0,.int .u8 x] ⟨bs,nx⟩=some ⟨True,.nilI,(((⟨bs,nx⟩:Hp).put b (.cells [.sl nx 0 (l++[UInt8.ofNat x.toNat]).length 1 none,.int .i64 0,.int .i8 0,.int .u8 la,.int .i64 fr])).kill c).new (bly (l++[UInt8.ofNat x.toNat])),[b,c],[b,c]⟩:=
 zsP (st:=zmq) (s':=(l++[UInt8.ofNat x.toNat],la,fr)) hb hc hn h0 (Yi ⟨hl,hx⟩) hk
end Go.Proofs

namespace Go.Proofs
open Tryz Go.Ab Go.Pl
attribute [local go_sem] zbJ
def varF:Nat→Nat→ZL
 |0,n=>[UInt8.ofNat n]
 |k+1,n=>if n<128 then [UInt8.ofNat n]else UInt8.ofNat (n%128+128)::varF k (n/128)
def or128(x:Nat)(h:x<256):x|||128=x%128+128:=by revert x;decide+kernel
def varint_N(l:ZL)(la fr:Int)(n:Nat)(h0:l≠[])(hl:l.length≤90000000)(hn:n<128^6):NCall prog 26 [.ptr 0 0,.int .i64 n] [wB 1 l.length la fr,bly l] [0,1] (.tup []) ⟨[(0,wB 2 (l++varF 5 n).length la fr),(2,bly (l++varF 5 n))],3⟩:=by
 unfold wB;refine Xi (rs:=[]) [0,1,5] [] 2 [0,1] mixed (zh) (zeS) call26 func26 rfl ntmps26 rfl Zk Zs Zs Zs Zs ?_;simp only[go_sem];refine AXs.loop mixed (zh) (zeS) (ι:=Nat×Nat×ZL) (fun i=>[(1,.int .i64 i.2.1),(0,.ptr 0 0)]) (fun i=>⟨[(0,.cells [.sl 2 0 i.2.2.length 1 none,.int .i64 0,.int .i8 0,.int .u8 la,.int .i64 fr]),(2,bly i.2.2)],3⟩) (fun i=>i.2.1<128^(i.1+1)∧i.2.2≠[]∧i.2.2.length+i.1≤90000010∧i.2.2++varF i.1 i.2.1=l++varF 5 n) (fun i=>i.1) (5,n,l) Zk ⟨hn,h0,by show l.length+5≤_;omega,rfl⟩ (Xh [(2,1)] rfl ?_ ?_ ?_ ?_) ?_
 ·simp only[go_sem]
 ·simp only[go_sem]
 ·decide
 ·exact ZE
 rintro⟨k,m,d⟩ ⟨h1,h2,h3,h4⟩;dsimp only at h1 h2 h3 h4;simp only[go_sem];have e1:Go.bits .or .u8 (IntKind.u8.wrap (m:Int)) 128=((m%128+128:Nat):Int):=by
  have:IntKind.u8.wrap (m:Int)=((m%256:Nat):Int):=by rw[IntKind.wrap_u8'];omega
  rw[this,show (128:Int)=((128:Nat):Int)from rfl,u8_or_nat _ _ Zo Zo,or128 _ Zo];omega
 have e2:(m:Int)/2^7=((m/128:Nat):Int):=Zo;refine Xb (fun hc=>?_) (fun hc=>?_)
 ·obtain⟨k,rfl⟩:∃k',k=k'+1:=⟨k-1,by
   cases k with
   |zero=>simp at h1;omega
   |succ k=>rfl⟩
  simp(disch:=try exact Zp)only[go_sem,e1,e2,zce];refine⟨Zd,zi (k,m/128,d++[UInt8.ofNat (m%128+128)]) ⟨?_,Zs,by simp;omega,?_⟩ (by show k<k+1;omega) (Xh [(2,3)] rfl ?_ ?_ Zd ?_)⟩
  ·show m/128<128^(k+1);exact Nat.div_lt_of_lt_mul (by rw[Yav,←YM];exact h1)
  ·show (d++[UInt8.ofNat (m%128+128)])++varF k (m/128)=_;rw[←h4,varF,Yh Zo,YR];rfl
  ·simp(disch:=try exact Zq)only[go_sem,e2]
  ·simp only[go_sem]
  exact ZE
 have e3:IntKind.u8.wrap (m:Int)=(m:Int):=by rw[IntKind.wrap_u8'];omega
 refine AXa.go mixed (zh) (zeS) Zk ?_;simp(disch:=try exact Zp)only[go_sem,e3,zce];have e4:l++varF 5 n=d++[UInt8.ofNat m]:=by
  rw[←h4];cases k with
  |zero=>rfl
  |succ k=>rw[varF,Yi Zo]
 rw[e4];refine⟨rfl,[],Xh [(2,3)] rfl Zg Zg Zd ?_⟩;exact ZE
attribute [local go_sem] zbJ
abbrev WS:=ZL×Nat×Nat
def zgI(s:WS)(b:Nat):WS:=
 if s.2.2=0 then(s.1,b*2^7,7)
 else if s.2.2=1 then(s.1++[UInt8.ofNat (s.2.1+b*2^0)],s.2.1+b*2^0,0)
 else(s.1,s.2.1+b*2^(s.2.2-1),s.2.2-1)
def numW:Nat→Nat→WS→WS
 |0,_,s=>s
 |k+1,n,s=>numW k n (zgI s (n/2^k%2))
def okW(s:WS):Prop:=s.2.1<256∧s.2.2≤7∧s.2.1%2^s.2.2=0∧s.1≠[]
instance (s:WS):Decidable (okW s):=by unfold okW;exact inferInstance
def zgY {s:WS}{b:Nat}(h:okW s)(hb:b<2):okW (zgI s b):=by
 obtain⟨l,la,fr⟩:=s;obtain⟨h1,h2,h3,h4⟩:=h;dsimp only at h1 h2 h3 h4;unfold zgI okW;dsimp only;split
 ·refine⟨by show b*2^7<256;omega,by show 7≤7;omega,by show b*2^7%2^7=0;omega,h4⟩
 split
 ·refine⟨?_,by show 0≤7;omega,by show (la+b*2^0)%2^0=0;omega,Zs⟩;rename_i e;subst e;show la+b*2^0<256;omega
 obtain⟨f,rfl⟩:∃f,fr=f+2:=⟨fr-2,Zo⟩;refine⟨?_,by show f+2-1≤7;omega,?_,h4⟩
 ·show la+b*2^(f+1)<256;have:f=0∨f=1∨f=2∨f=3∨f=4∨f=5:=Zo;rcases this with rfl|rfl|rfl|rfl|rfl|rfl<;>simp at h3 ⊢<;>omega
 show (la+b*2^(f+1))%2^(f+1)=0;have:f=0∨f=1∨f=2∨f=3∨f=4∨f=5:=Zo;rcases this with rfl|rfl|rfl|rfl|rfl|rfl<;>simp at h3 ⊢<;>omega
def zxc(s:WS)(b:Nat):(zgI s b).1.length≤s.1.length+1:=by
 unfold zgI;split
 ·simp
 split<;>simp
def zlq(a:Nat)(h:a<9223372036854775808):Go.bits .and .i64 (a:Int) 1=((a%2:Nat):Int):=by
 unfold Go.bits;have h1:(BitVec.ofInt 64 (a:Int)).toNat=a:=by simp;omega
 have h2:(BitVec.ofInt 64 (a:Int)&&&BitVec.ofInt 64 1).toNat=a%2:=by rw[BitVec.toNat_and,h1];exact Nat.and_two_pow_sub_one_eq_mod a 1
 show IntKind.i64.wrap (((BitVec.ofInt 64 (a:Int)&&&BitVec.ofInt 64 1).toNat:Nat):Int)=_;rw[h2];exact wrap_i64 _ Zo Zo
def orbit(la f b:Nat)(h1:la<256)(hf:f≤7)(h:la%2^(f+1)=0)(hb:b<2):Go.bits .or .u8 (la:Int) (IntKind.u8.wrap (((b:Nat):Int)*2^f))=((la+b*2^f:Nat):Int):=by
 have h2:f=0∨f=1∨f=2∨f=3∨f=4∨f=5∨f=6∨f=7:=Zo;have key:∀m:Nat,m=2^f→m≤128:=by rintro m rfl;rcases h2 with rfl|rfl|rfl|rfl|rfl|rfl|rfl|rfl<;>decide
 have hm:=key _ rfl;have hbm:b*2^f<2^(f+1):=by rw[YM];have:0<2^f:=Nat.two_pow_pos f;rcases(show b=0∨b=1 by omega)with rfl|rfl<;>omega
 have hb2:b*2^f≤128:=by rcases(show b=0∨b=1 by omega)with rfl|rfl<;>omega
 have e:IntKind.u8.wrap (((b:Nat):Int)*2^f)=((b*2^f:Nat):Int):=by
  have:((b:Nat):Int)*2^f=((b*2^f:Nat):Int):=by push_cast;rfl
  rw[this,IntKind.wrap_u8'];omega
 rw[e,u8_or_nat _ _ h1 Zo,nat_join (f+1) la (b*2^f) h hbm]
def zxC(la f b:Nat)(h1:la<256)(hf:f≤7)(h:la%2^(f+1)=0)(hb:b<2):Go.bits .or .u8 (la:Int) (((b:Nat):Int)*2^f)=((la+b*2^f:Nat):Int):=by
 have h2:f=0∨f=1∨f=2∨f=3∨f=4∨f=5∨f=6∨f=7:=Zo;have e:IntKind.u8.wrap (((b:Nat):Int)*2^f)=((b:Nat):Int)*2^f:=by rw[IntKind.wrap_u8'];rcases h2 with rfl|rfl|rfl|rfl|rfl|rfl|rfl|rfl<;>omega
 rw[←orbit la f b h1 hf h hb,e]
def number_N(l:ZL)(la0 fr0 n z:Nat)(h0:okW (l,la0,fr0))(hl:l.length≤90000000)(hn:n<2^60)(hz:z≤60):NCall prog 28 [.ptr 0 0,.int .i64 n,.int .i64 z] [wB 1 l.length la0 fr0,bly l] [0,1] (.tup []) ⟨[(0,wB 2 (numW z n (l,la0,fr0)).1.length (numW z n (l,la0,fr0)).2.1 (numW z n (l,la0,fr0)).2.2),(2,bly (numW z n (l,la0,fr0)).1)],3⟩:=by
 unfold wB;refine Xi (rs:=[]) [0,1,2,6,10,17,52] [] 2 [0,1] mixed (zh) (zeS) call28 func28 rfl ntmps28 rfl Zk Zs Zs Zs Zs ?_;simp(disch:=try exact Zq)only[go_sem];refine AXs.loop mixed (zh) (zeS) (ι:=Nat×WS) (fun i=>[(6,.int .i64 ((i.1:Int)-1)),(1,.int .i64 n),(0,.ptr 0 0)]) (fun i=>⟨[(0,.cells [.sl 2 0 i.2.1.length 1 none,.int .i64 0,.int .i8 0,.int .u8 (i.2.2.1:Nat),.int .i64 (i.2.2.2:Nat)]),(2,bly i.2.1)],3⟩) (fun i=>i.1≤60∧okW i.2∧i.2.1.length+i.1≤90000100∧numW i.1 n i.2=numW z n (l,la0,fr0)) (fun i=>i.1) (z,(l,la0,fr0)) Zk ⟨hz,h0,by show l.length+z≤_;omega,rfl⟩ (Xh [(2,1)] rfl ?_ ?_ ?_ ?_) ?_
 ·simp only[go_sem]
 ·simp only[go_sem]
 ·decide
 ·exact ZE
 rintro⟨k,d,la,fr⟩ ⟨h1,⟨g1,g2,g3,g4⟩,h3,h4⟩;dsimp only at h1 g1 g2 g3 g4 h3 h4;simp only[go_sem];refine Xb (fun hc=>?_) (fun hc=>?_)
 ·obtain⟨k,rfl⟩:∃k',k=k'+1:=⟨k-1,Zo⟩;have ek:(((k+1:Nat):Int)-1)=(k:Int):=Zo;obtain⟨q,hq⟩:∃q,q=n/2^k:=⟨_,rfl⟩;have hqn:q≤n:=by rw[hq];exact Ych _ _
  have eS:(n:Int)/2^k=((q:Nat):Int):=by rw[hq];push_cast;rfl
  have eA:Go.bits .and .i64 (q:Int) 1=((q%2:Nat):Int):=zlq q Zo;have eW:IntKind.u8.wrap ((q%2:Nat):Int)=((q%2:Nat):Int):=by rw[IntKind.wrap_u8'];omega
  have hb2:q%2<2:=Zo;rw[numW]at h4;rw[←hq]at h4;rcases(show fr=0∨fr=1∨∃f,fr=f+2 from by rcases fr with _|_|f;exact .inl rfl;exact .inr (.inl rfl);exact .inr (.inr ⟨f,rfl⟩))with rfl|rfl|⟨f,rfl⟩
  ·have eO:=zxC 0 7 (q%2) Zo Zo Zs hb2;rw[Int.natCast_zero,Yan]at eO;have hp:zgI (d,la,0) (q%2)=(d,q%2*2^7,7):=rfl;have hok:=zgY (s:=(d,la,0)) (b:=q%2) ⟨g1,g2,g3,g4⟩ hb2;rw[hp]at h4 hok;simp(disch:=try exact Zq)only[go_sem,ek,eS,eA,eW,eO];refine⟨Zd,Zd,Zd,Zo,Zd,AXk.intro Zk ?_⟩;simp(disch:=try exact Zq)only[go_sem,ek,eS,eA,eW,eO];refine zi (k,(d,q%2*2^7,7)) ⟨by show k≤60;omega,hok,by show d.length+k≤_;omega,h4⟩ (by show k<k+1;omega) (Xh [] rfl ?_ ?_ Zd ?_)
   ·simp only[go_sem]
   ·simp only[go_sem]
   exact ZE
  ·have eO:=zxC la 0 (q%2) g1 Zo g3 hb2;have hp:zgI (d,la,1) (q%2)=(d++[UInt8.ofNat (la+q%2*2^0)],la+q%2*2^0,0):=rfl;have hok:=zgY (s:=(d,la,1)) (b:=q%2) ⟨g1,g2,g3,g4⟩ hb2;rw[hp]at h4 hok;simp(disch:=try exact Zp)only[go_sem,ek,eS,eA,eW,eO,zce];refine⟨Zd,Zo,Zd,AXk.intro Zk ?_⟩;simp(disch:=try exact Zp)only[go_sem,ek,eS,eA,eW,eO,zce];refine⟨Zd,AXk.intro Zk ?_⟩;simp(disch:=try exact Zp)only[go_sem,ek,eS,eA,eW,eO,zce];refine zi (k,(d++[UInt8.ofNat (la+q%2*2^0)],la+q%2*2^0,0)) ⟨by show k≤60;omega,hok,by show (d++[_]).length+k≤_;rw[Yd,YZ];omega,h4⟩ (by show k<k+1;omega) (Xh [(2,3)] rfl ?_ ?_ Zd ?_)
   ·simp only[go_sem]
   ·simp only[go_sem]
   exact ZE
  have eO:=zxC la (f+1) (q%2) g1 Zo g3 hb2;have eO':=orbit la (f+1) (q%2) g1 Zo g3 hb2;have hp:zgI (d,la,f+2) (q%2)=(d,la+q%2*2^(f+1),f+1):=by unfold zgI;rw[Yh (show ¬f+2=0 by omega),Yh (show ¬f+2=1 by omega)];rfl
  have hok:=zgY (s:=(d,la,f+2)) (b:=q%2) ⟨g1,g2,g3,g4⟩ hb2;rw[hp]at h4 hok;have ef:(((f+2:Nat):Int)-1)=((f+1:Nat):Int):=Zo;have d0:decide (((f+2:Nat):Int)=0)=false:=Ye Zo;have d1:decide (((f+1:Nat):Int)=0)=false:=Ye Zo;simp(disch:=try exact Zq)only[go_sem,ek,eS,eA,eW,eO,eO',ef,d0,d1];refine⟨Zd,Zo,Zo,Zd,AXk.intro Zk ?_⟩;simp(disch:=try exact Zq)only[go_sem,ek,eS,eA,eW,eO,eO',ef,d0,d1];refine zi (k,(d,la+q%2*2^(f+1),f+1)) ⟨by show k≤60;omega,hok,by show d.length+k≤_;omega,h4⟩ (by show k<k+1;omega) (Xh [] rfl ?_ ?_ Zd ?_)
  ·simp only[go_sem]
  ·simp only[go_sem]
  exact ZE
 obtain rfl:k=0:=Zo;simp only[go_sem];have h5:numW z n (l,la0,fr0)=(d,la,fr):=h4.symm;rw[h5];refine⟨[],Xh [] rfl Zg Zg Zd ?_⟩;exact ZE
def zaC:∀(z n:Nat)(s:WS),okW s→okW (numW z n s)∧(numW z n s).1.length≤s.1.length+z
 |0,_,s,h=>⟨h,Yc _⟩
 |z+1,n,s,h=>by obtain⟨h1,h2⟩:=zaC z n (zgI s (n/2^z%2)) (zgY h (YaJ _ Zd));have:=zxc s (n/2^z%2);exact⟨h1,by show (numW z n _).1.length≤_;omega⟩
def zte(l:ZL)(la fr:Int):ZA→Option Wst
 |[.int .i64 n,.int .i64 z]=>if 0≤la∧0≤fr∧okW (l,la.toNat,fr.toNat)∧l.length≤90000000∧0≤n∧n.toNat<2^60∧0≤z∧z≤60 then some ((numW z.toNat n.toNat (l,la.toNat,fr.toNat)).1,((numW z.toNat n.toNat (l,la.toNat,fr.toNat)).2.1:Int),((numW z.toNat n.toNat (l,la.toNat,fr.toNat)).2.2:Int))else none
 |_=>none
def stNum_eq {l:ZL}{la fr n z:Nat}(h:okW (l,la,fr))(hl:l.length≤90000000)(hn:n<2^60)(hz:z≤60):zte l la fr [.int .i64 n,.int .i64 z]=some ((numW z n (l,la,fr)).1,((numW z n (l,la,fr)).2.1:Int),((numW z n (l,la,fr)).2.2:Int)):=
 Yi ⟨Int.natCast_nonneg _,Int.natCast_nonneg _,h,hl,Int.natCast_nonneg _,hn,Int.natCast_nonneg _,Zo⟩
def num_ok:∀args H r,WrR zte (.tup []) args H r→HCall prog 28 args H r:=by
 refine zmc (.tup Zs) fun l la fr rest l' la' fr' h0 hs=>?_;unfold zte at hs;split at hs
 ·split at hs
  ·rename_i n z hx;obtain⟨a1,a2,a3,a4,a5,a6,a7,a8⟩:=hx;cases hs;refine⟨by simp[zbs],?_⟩;have:=number_N l la.toNat fr.toNat n.toNat z.toNat a3 a4 a6 Zo;rw[Int.toNat_of_nonneg a1,Int.toNat_of_nonneg a2,Int.toNat_of_nonneg a5,Int.toNat_of_nonneg a7]at this;exact this
  cases hs
 cases hs
def Δw1:FuncId→ZA→Hp→Option AR:=za8 28 (conD (WrR zte (.tup []))) Δw0
def zvF:zaP prog Δw1:=zJ (zV num_ok) zeS
def zqG(b c k:Nat)(l:ZL)(la fr n z:Nat)(bs:ZH)(nx:Nat)(hb:zL bs b=some (.cells [.sl c 0 k 1 none,.int .i64 0,.int .i8 0,.int .u8 (la:Nat),.int .i64 (fr:Nat)]))(hc:zL bs c=some (bly l))(hk':k=l.length)(h:okW (l,la,fr))(hl:l.length≤90000000)(hn:n<2^60)(hz:z≤60)(hk:((keysB bs).all fun b=>decide (b<nx))=true):Δw1 28 [.ptr b 0,.int .i64 n,.int .i64 z] ⟨bs,nx⟩=some ⟨True,.tup [],(((⟨bs,nx⟩:Hp).put b (.cells [.sl nx 0 (numW z n (l,la,fr)).1.length 1 none,.int .i64 0,.int .i8 0,.int .u8 ((numW z n (l,la,fr)).2.1:Nat),.int .i64 ((numW z n (l,la,fr)).2.2:Nat)])).kill c).new (bly (numW z n (l,la,fr)).1),[b,c],[b,c]⟩:=
 zsP (st:=zte) (s':=((numW z n (l,la,fr)).1,((numW z n (l,la,fr)).2.1:Int),((numW z n (l,la,fr)).2.2:Int))) hb hc hk' h.2.2.2 (stNum_eq h hl hn hz) hk
def zqH(b c k:Nat)(l:ZL)(la fr:Nat)(n:Int)(bs:ZH)(nx:Nat)(hb:zL bs b=some (.cells [.sl c 0 k 1 none,.int .i64 0,.int .i8 0,.int .u8 (la:Nat),.int .i64 (fr:Nat)]))(hc:zL bs c=some (bly l))(hk':k=l.length)(h:okW (l,la,fr))(hl:l.length≤90000000)(hn:0≤n∧n≤1)(hk:((keysB bs).all fun b=>decide (b<nx))=true):Δw1 28 [.ptr b 0,.int .i64 n,.int .i64 1] ⟨bs,nx⟩=some ⟨True,.tup [],(((⟨bs,nx⟩:Hp).put b (.cells [.sl nx 0 (numW 1 n.toNat (l,la,fr)).1.length 1 none,.int .i64 0,.int .i8 0,.int .u8 ((numW 1 n.toNat (l,la,fr)).2.1:Nat),.int .i64 ((numW 1 n.toNat (l,la,fr)).2.2:Nat)])).kill c).new (bly (numW 1 n.toNat (l,la,fr)).1),[b,c],[b,c]⟩:=by obtain⟨m,rfl⟩:∃m:Nat,n=m:=⟨n.toNat,Zo⟩;exact zqG b c k l la fr m 1 bs nx hb hc hk' h hl Zo Zo hk
def b2n(b:Bool):Nat:=match b with|true=>1|false=>0
theorem b2n_t:b2n true=1:=rfl
theorem b2n_f:b2n false=0:=rfl
def flag_N(l:ZL)(la fr:Nat)(x:Bool)(h0:okW (l,la,fr))(hl:l.length≤90000000):NCall prog 64 [.ptr 0 0,.bool x] [wB 1 l.length la fr,bly l] [0,1] (.tup []) ⟨[(0,wB 2 (numW 1 (b2n x) (l,la,fr)).1.length (numW 1 (b2n x) (l,la,fr)).2.1 (numW 1 (b2n x) (l,la,fr)).2.2),(2,bly (numW 1 (b2n x) (l,la,fr)).1)],3⟩:=by
 unfold wB;refine Xi (rs:=[]) [0,1,4,5] [] 2 [0,1] mixed (zh) (zvF) call64 func64 rfl ntmps64 rfl Zk Zs Zs Zs Zs ?_;cases x with
 |true=>simp(disch:=try exact Zp)only[go_sem,zqH];exact⟨rfl,[],Xh [] rfl Zg (by simp only[go_sem,b2n_t,b2n_f]) Zd (by exact ZE)⟩
 |false=>simp(disch:=try exact Zp)only[go_sem,zqH];exact⟨rfl,[],Xh [] rfl Zg (by simp only[go_sem,b2n_t,b2n_f]) Zd (by exact ZE)⟩
def zq8(l:ZL)(la fr:Int):ZA→Option Wst
 |[.bool x]=>if 0≤la∧0≤fr∧okW (l,la.toNat,fr.toNat)∧l.length≤90000000 then some ((numW 1 (b2n x) (l,la.toNat,fr.toNat)).1,((numW 1 (b2n x) (l,la.toNat,fr.toNat)).2.1:Int),((numW 1 (b2n x) (l,la.toNat,fr.toNat)).2.2:Int))else none
 |_=>none
def flag_ok:∀args H r,WrR zq8 (.tup []) args H r→HCall prog 64 args H r:=by
 refine zmc (.tup Zs) fun l la fr rest l' la' fr' h0 hs=>?_;unfold zq8 at hs;split at hs
 ·split at hs
  ·rename_i x hx;obtain⟨a1,a2,a3,a4⟩:=hx;cases hs;refine⟨by simp[zN],?_⟩;have:=flag_N l la.toNat fr.toNat x a3 a4;rw[Int.toNat_of_nonneg a1,Int.toNat_of_nonneg a2]at this;exact this
  cases hs
 cases hs
def zcu(s:WS):WS:=if s.2.2=0 then s else(s.1++[UInt8.ofNat s.2.1],s.2.1,0)
def fill_N(l:ZL)(la fr:Nat)(h0:okW (l,la,fr))(hl:l.length≤90000000):NCall prog 31 [.ptr 0 0] [wB 1 l.length la fr,bly l] [0,1] (.tup []) ⟨[(0,wB 2 (zcu (l,la,fr)).1.length (zcu (l,la,fr)).2.1 (zcu (l,la,fr)).2.2),(2,bly (zcu (l,la,fr)).1)],3⟩:=by
 unfold wB;obtain⟨g1,g2,g3,g4⟩:=h0;dsimp only at g1 g2 g3 g4;refine Xi (rs:=[]) [0,6] [] 2 [0,1] mixed (zh) (zeS) call31 func31 rfl ntmps31 rfl Zk Zs Zs Zs Zs ?_;by_cases hf:fr=0
 ·subst hf;have e:zcu (l,la,0)=(l,la,0):=rfl;rw[e];simp(disch:=try exact Zp)only[go_sem];exact⟨[],Xh [(2,1)] rfl Zg Zg Zd (by exact ZE)⟩
 have e:zcu (l,la,fr)=(l++[UInt8.ofNat la],la,0):=Yh hf;have d0:decide (0<(fr:Int))=true:=Yf Zo;rw[e];simp(disch:=try exact Zp)only[go_sem,d0,zce];refine⟨rfl,AXk.intro Zk ?_⟩;simp(disch:=try exact Zp)only[go_sem,d0,zce];exact⟨rfl,[],Xh [] rfl Zg Zg Zd (by exact ZE)⟩
end Go.Proofs
