/- Pack: the table of the checksum. -/
import Derived.Test.YtbdlfegfepggnaaGreatDoorPk6
import Derived.Shelf.Sort.AssemblysIn
import Derived.Shelf.Slices.CompactS
import Derived.Sort.EveryDepth
import Derived.Sort.EncStr
import Derived.Sort.Grow
set_option linter.all false
set_option maxHeartbeats 16000000
set_option maxRecDepth 100000
noncomputable section
namespace Go.Proofs
open Tryz Go.Ab Go.Pl Go.Cnt
def crcS(c:Nat):Nat:=if c%2=1 then(c/2)^^^3988292384 else c/2
def crcK:Nat→Nat→Nat
 |0,c=>c
 |k+1,c=>crcK k (crcS c)
def crcT(i:Nat):Nat:=crcK 8 i
def zol {c:Nat}(h:c<4294967296):crcS c<4294967296:=by
 unfold crcS;split
 ·exact Nat.xor_lt_two_pow (n:=32) Zo Zd
 omega
def zwS:∀ {k c:Nat},c<4294967296→crcK k c<4294967296
 |0,_,h=>h
 |k+1,c,h=>zwS (k:=k) (c:=crcS c) (zol h)
def zoj {i:Nat}(h:i<4294967296):crcT i<4294967296:=zwS h
def crow(i:Nat):ZA:=(List.range i).map (fun k=>.int .u32 (crcT k:Nat))++List.replicate (256-i) (.int .u32 0)
def zbB {i:Nat}(h:i≤256):(crow i).length=256:=by simp[crow];omega
def crow_set {i:Nat}(h:i<256):(crow i).set i (.int .u32 (crcT i:Nat))=crow (i+1):=by unfold crow;obtain⟨d,hd⟩:∃d,256-i=d+1:=⟨255-i,Zo⟩;have hd':256-(i+1)=d:=Zo;rw[hd,hd',List.set_append_right _ _ Zs];simp[List.range_succ,Ya6]
def zkp(i:Nat):(crow i).all V.one=true:=by
 rw[Yl];intro x hx;unfold crow at hx;rcases Yam.1 hx with h|h
 ·obtain⟨k,_,rfl⟩:=YZ.1 h;rfl
 rw[YaO h];rfl
def zmk(i:Nat):∀x∈crow i,Pure x:=fun x hx=>by
 unfold crow at hx;rcases Yam.1 hx with h|h
 ·obtain⟨k,_,rfl⟩:=YZ.1 h;exact .int _ _
 rw[YaO h];exact .int _ _
def zwN {π:Nat→Nat}{N:Nat→Prop}(i:Nat):LRel (Rn π N) (crow i) (crow i)↔True:=⟨fun _=>trivial,fun _=>zB (zmk i)⟩
def zko(i:Nat)(l:ZA)(h1:l.length=256):putCells l 0 (crow 256)=crow 256:=by
 have h:(crow 256).length=256:=zbB (Yc _);unfold putCells;split
 ·rename_i x e;rw[e]at h;simp at h
 rw[h];simp[h1]
def crcZ:Value:=.agg (Array.replicate 256 (.int .u32 0))
def zml:zaw prog 104=some crcZ:=Zk
def zwO:zt (cv crcZ)=true:=Zk
def ziR:(cv crcZ).cellsV=crow 0:=Zk
def zp8 {i k:Nat}(h:k<i)(hi:i≤256):nthV (crow i) k=.int .u32 (crcT k:Nat):=by rw[zby];unfold crow;rw[YP (by simpa using h)];simp[h]
attribute [local go_sem] zbg zml zwO ziR zwN
def zmG(a:Nat)(h:a<4294967296):Go.bits .and .u32 (a:Int) 1=((a%2:Nat):Int):=by rw[show (1:Int)=((1:Nat):Int)from rfl,u32_and_nat a 1 h Zd,nat_mask1]
def zmF(a:Nat)(h:a<4294967296):Go.bits .xor .u32 (a:Int) 3988292384=((a^^^3988292384:Nat):Int):=by rw[show (3988292384:Int)=((3988292384:Nat):Int)from rfl,u32_xor_nat a _ h Zd]
def table_ok:PCall prog 65 [] (.ret (.agg (crow 256))):=by
 refine Xa (rs:=[.cell 0 104]) [0,1,2,3,4,8,9,12] [] mixed (zh) (zg) call65 func65 rfl ntmps65 rfl ?_;simp(disch:=try exact Zq)only[go_sem];refine AXs.loop mixed (zh) (zg) (ι:=Nat) (fun i=>[(3,.int .i64 i),(0,.ptr 0 0)]) (fun i=>⟨[(0,.cells (crow i))],1⟩) (fun i=>i≤256) (fun i=>256-i) 0 Zk (Yk _) (Xb [] rfl rfl ?_ ?_) ?_
 ·simp only[go_sem]
 ·simp only[go_sem]
 intro i hi0;simp(disch:=try exact Zq)only[go_sem];refine Xc (fun hc=>?_) (fun hc=>?_)
 ·have hi:i<256:=Zo;have hcl:=zbB hi0;have eW:IntKind.u32.wrap (i:Int)=(i:Int):=by rw[IntKind.wrap_u32'];omega
  simp(disch:=try exact Zq)only[go_sem,eW];refine AXs.loop mixed (zh) (zg) (ι:=Nat×Nat) (fun k=>[(8,.int .i64 k.1),(2,.int .u32 (k.2:Nat)),(1,.int .i64 i),(3,.int .i64 i),(0,.ptr 0 0)]) (fun _=>⟨[(0,.cells (crow i))],1⟩) (fun k=>k.1≤8∧k.2<4294967296∧crcK (8-k.1) k.2=crcT i) (fun k=>8-k.1) (0,i) Zk ⟨Yk _,by show i<_;omega,rfl⟩ (Xb [] rfl rfl ?_ ?_) ?_
  ·simp only[go_sem]
  ·simp only[go_sem]
  rintro⟨k,c⟩ ⟨g1,g2,g3⟩;dsimp only at g1 g2 g3;have eA:=zmG c g2;have eD:(c:Int)/2^1=((c/2:Nat):Int):=Zo;have eX:=zmF (c/2) Zo;have ek:(k:Int)+1=((k+1:Nat):Int):=Zo;simp(disch:=try exact Zq)only[go_sem];refine Xc (fun hc=>?_) (fun hc=>?_)
  ·have e8:crcK (8-(k+1)) (crcS c)=crcT i:=by rw[←g3,show 8-k=(8-(k+1))+1 by omega];rfl
   have hlt:=zol g2;by_cases hb:c%2=1
   ·have d0:decide (((c%2:Nat):Int)=1)=true:=Yf Zo;rw[crcS,Yi hb]at e8 hlt;simp(disch:=try exact Zq)only[go_sem,eA,eD,eX,d0,ek];exact zi (k+1,c/2^^^3988292384) ⟨by show k+1≤8;omega,hlt,e8⟩ (by show 8-(k+1)<8-k;omega) (Xb [] rfl rfl Zg Zg)
   have d0:decide (((c%2:Nat):Int)=1)=false:=Yd Zo;rw[crcS,Ye hb]at e8 hlt;simp(disch:=try exact Zq)only[go_sem,eA,eD,eX,d0,ek];exact zi (k+1,c/2) ⟨by show k+1≤8;omega,hlt,e8⟩ (by show 8-(k+1)<8-k;omega) (Xb [] rfl rfl Zg Zg)
  obtain rfl:k=8:=Zo;have e9:c=crcT i:=g3;have hs:=crow_set hi;have ei:(i:Int)+1=((i+1:Nat):Int):=Zo;rw[e9];refine AXa.go mixed (zh) (zg) Zk ?_;simp(disch:=try exact Zq)only[go_sem,hs,ei];exact⟨Zo,Zo,zi (i+1) hi Zo (Xb [] rfl rfl Zg Zg)⟩
 obtain rfl:i=256:=Zo;simp(disch:=try exact Zq)only[go_sem];refine AXa.go mixed (zh) (zg) Zk ?_;have ht:(crow 256).take 256=crow 256:=Yp (by rw[zbB (Yc _)];exact Yc _);have hp:=zko 256 (crow 256) (zbB (Yc _));have hl:=zbB (Yc 256);simp(disch:=try exact Zq)only[go_sem,ht,hp,hl];exact⟨zkp 256,.pure (.agg (zmk 256))⟩
def cTab:ZV:=zL (fun _:Unit=>[]) (fun _=>True) fun _=>.ret (.agg (crow 256))
def zxk:cTab []=some (.ret (.agg (crow 256))):=zo (pat:=fun _:Unit=>([]:ZA)) (fun _ _ _=>rfl) () trivial
def zfG:ZC cTab 65:=zn fun _ _=>table_ok
def crcU(l:ZL)(c:Nat):Nat:=l.foldl (fun c x=>crcT ((c%256)^^^x.toNat)^^^(c/256)) c
def zmm(l:ZL)(i:Nat)(c:Nat)(h:i<l.length):crcU (l.take (i+1)) c=crcT ((crcU (l.take i) c%256)^^^(l.getD i 0).toNat)^^^(crcU (l.take i) c/256):=by unfold crcU;rw[YaW,List.foldl_append];simp[h]
def zwP(l:ZL)(c:Nat)(h:c<4294967296):crcU l c<4294967296:=by
 induction l generalizing c with
 |nil=>exact h
 |cons x l ih=>refine ih _ ?_;have h1:(c%256)^^^x.toNat<2^8:=Nat.xor_lt_two_pow (n:=8) Zo x.toNat_lt;exact Nat.xor_lt_two_pow (n:=32) (zoj Zo) Zo
def crcE(l:ZL):Nat:=4294967295^^^crcU l 4294967295
def sumB(l:ZL):ZL:=[UInt8.ofNat (crcE l/16777216),UInt8.ofNat (crcE l/65536),UInt8.ofNat (crcE l/256),UInt8.ofNat (crcE l)]
def byte_of(n:Nat):V.int .u8 ((n:Int)%256)=zq (UInt8.ofNat n):=by unfold zq;rw[UInt8.toNat_ofNat'];congr 1
def ldA_bly(l:ZL)(b off:Nat)(H:Hp)(h:off<l.length):ldA (some false) (some 1) (some (bly l)) b off H=⟨True,.int .u8 ((l.getD off 0).toNat:Nat),H,[b],[]⟩:=by unfold bly;rw[ziG,zby];simp[h,zq]
def xor_u8(a b:Nat)(ha:a<256)(hb:b<256):Go.bits .xor .u8 (a:Int) (b:Int)=((a^^^b:Nat):Int):=u8_xor_nat a b ha hb
def zsM(l:ZL)(hl:l.length≤100000000):NCall prog 33 [.sl 0 0 l.length 1 none] [bly l] [] (.sl 1 0 4 1 (some 4)) ⟨[(0,bly l),(1,.cells ((sumB l).map zq))],2⟩:=by
 refine NCall.walk (rs:=[.tmp 2]) [0,2,3,4,6,8,9,10,11] [] 1 mixed (zf zfG zh) (zg) call33 func33 rfl ntmps33 rfl Zk Zs Zs Zs ?_;have hz:=zko 0 (crow 0) (zbB (Yk _));have hl0:=zbB (Yk 256);have hl2:=zbB (Yc 256);simp(disch:=try exact Zq)only[go_sem,zxk,hz,hl0,hl2];refine⟨zkp 256,AXs.loop mixed (zf zfG zh) (zg) (ι:=Nat) (fun i=>[(10,.int .i64 i),(9,.int .i64 l.length),(8,.sl 0 0 l.length 1 none),(4,.int .u32 (crcU (l.take i) 4294967295:Nat)),(3,.ptr 1 0)]) (fun _=>⟨[(1,.cells (crow 256)),(0,bly l)],2⟩) (fun i=>i≤l.length) (fun i=>l.length-i) 0 Zk (Yk _) (Sub.of [] rfl ?_ ?_ Zd (by
  intro b hb hw;match b,hb with
  |0,_=>rfl)) ?_⟩
 ·simp only[go_sem];rfl
 ·simp only[go_sem]
 intro i hi0;obtain⟨c,hc0⟩:∃c,c=crcU (l.take i) 4294967295:=⟨_,rfl⟩;have hcl:c<4294967296:=hc0▸zwP _ _ Zd;rw[←hc0];simp(disch:=try exact Zq)only[go_sem];refine Xc (fun hc=>?_) (fun hc=>?_)
 ·have hi:i<l.length:=Zo;have hst:=zmm l i 4294967295 hi;rw[←hc0]at hst;have hx:=(l.getD i 0).toNat_lt;have e1:IntKind.u8.wrap (c:Int)=((c%256:Nat):Int):=by rw[IntKind.wrap_u8'];omega
  have e2:=xor_u8 (c%256) (l.getD i 0).toNat Zo hx;have h1:(c%256)^^^(l.getD i 0).toNat<2^8:=Nat.xor_lt_two_pow (n:=8) Zo hx;have e3:=zp8 (i:=256) (k:=(c%256)^^^(l.getD i 0).toNat) h1 (Yc _);have e4:(c:Int)/2^8=((c/256:Nat):Int):=Zo;have h2:crcT ((c%256)^^^(l.getD i 0).toNat)<4294967296:=zoj Zo;have e5:=u32_xor_nat (crcT ((c%256)^^^(l.getD i 0).toNat)) (c/256) h2 Zo;have ei:(i:Int)+1=((i+1:Nat):Int):=Zo;simp(disch:=try exact Zq)only[go_sem,ldA_bly,e1,e2,e3,e4,e5,ei,hl2];rw[←hst];refine⟨Zo,Zo,h1,zi (i+1) hi Zo (Sub.of [] rfl Zg Zg Zd (by
   intro b hb hw;match b,hb with
   |0,_=>rfl))⟩
 obtain rfl:i=l.length:=Zo;rw[Ym]at hc0;have eX:Go.bits .xor .u32 4294967295 (c:Int)=((crcE l:Nat):Int):=by rw[show (4294967295:Int)=((4294967295:Nat):Int)from rfl,u32_xor_nat _ _ Zd hcl,hc0];rfl
 have hE:crcE l<4294967296:=by have:=Nat.xor_lt_two_pow (n:=32) (x:=4294967295) (y:=crcU l 4294967295) Zd (by rw[←hc0];exact hcl);exact this
 have w0:IntKind.u8.wrap ((crcE l:Nat):Int)=((crcE l:Nat):Int)%256:=IntKind.wrap_u8' _;have w1:IntKind.u8.wrap (((crcE l:Nat):Int)/2^8)=((crcE l/256:Nat):Int)%256:=by rw[IntKind.wrap_u8'];omega
 have w2:IntKind.u8.wrap (((crcE l:Nat):Int)/2^16)=((crcE l/65536:Nat):Int)%256:=by rw[IntKind.wrap_u8'];omega
 have w3:IntKind.u8.wrap (((crcE l:Nat):Int)/2^24)=((crcE l/16777216:Nat):Int)%256:=by rw[IntKind.wrap_u8'];omega
 simp(disch:=try exact Zq)only[go_sem];refine AXa.go mixed (zf zfG zh) (zg) Zk ?_;have eM:(if IntKind.u32.signed=true then(-1:Int)else IntKind.u32.max)=4294967295:=Zd;have eB:(sumB l).map zq=[V.int .u8 (((crcE l/16777216:Nat):Int)%256),V.int .u8 (((crcE l/65536:Nat):Int)%256),V.int .u8 (((crcE l/256:Nat):Int)%256),V.int .u8 (((crcE l:Nat):Int)%256)]:=by rw[byte_of,byte_of,byte_of,byte_of];rfl
 rw[eB];simp(disch:=try exact Zq)only[go_sem,eM,eX,w0,w1,w2,w3];refine⟨[(2,.sl 1 0 4 1 (some 4))],Sub.of [(1,2)] rfl Zg Zg Zd (by
  intro b hb hw;match b,hb with
  |0,_=>rfl),rfl⟩
end Go.Proofs

namespace Go.Proofs
open Go.Ab Go.Shelf
def renS:Ren where
 f:=fun x=>match x with|125=>63|128=>84|129=>85|190=>59|258=>80|302=>92|303=>93|304=>94|305=>95|306=>96|307=>97|308=>98|309=>99|310=>100|329=>117|330=>118|333=>116|334=>119|335=>120|336=>121|344=>140|194=>60|n=>n
 t:=fun x=>match x with|0=>0|3=>3|4=>4|5=>5|9=>9|31=>25|46=>83|51=>81|53=>129|131=>100|182=>136|183=>137|218=>148|222=>115|228=>169|229=>144|n=>n
 g:=fun x=>x
def laysS190:Lays.n190 Tryz.prog renS:=by constructor<;>first|kernel_rfl|(intro w;kernel_rfl)
def laysS194:Lays.n194 Tryz.prog renS:=by constructor<;>first|kernel_rfl|(intro w;kernel_rfl)
end Go.Proofs

namespace Go.Ab
open Go.Sort Go.Proofs
def retS(b:Nat):Option Nat→V
 |none=>.tup []
 |some m=>.sl b 0 m 1 none
def retV(a:Addr)(cap:Nat):Option Nat→Value
 |none=>.tuple #[]
 |some m=>.slice (some a) m cap
def zit {P:Program}{f:FuncId}(hs:zk P f){d d':List ZL}{rest:ZA}(hlen:d'.length=d.length)(ret:Option Nat)(hret:∀m,ret=some m→m≤d.length) (hc:∀(blk off cap:Nat)(w:World),Holds encStr w blk off d.toArray→blk<w.heap.size→d.length≤cap→Calls P f #[.slice (some ⟨blk,off,none⟩) d.length cap] w fun e w'=>e=.returned (retV ⟨blk,off,none⟩ cap ret)∧∃q os,w'=grow (putRow encStr (Sort.ahead w q) blk off d'.toArray) os) {H:Hp} {b:Nat} (hb:H.get b=some (.cells (strs d++rest))):HCall P f [.sl b 0 d.length 1 none] H ⟨True,retS b ret,H.put b (.cells (strs d'++rest)),[b],[b]⟩:=by
 refine⟨fun _=>⟨Yc _,fun k hk hw=>?_,fun k hk=>?_,fun hk k x e=>?_⟩,fun _ g base D w vs hg hI hvs hpw hD=>?_⟩
 ·rw[Xd,Ye (by simpa using hw)]
 ·obtain rfl:k=b:=by simpa using hk
  exact⟨_,hb⟩
 ·rw[Xd]at e;show k<H.next;split at e
  ·rename_i hkb;subst hkb;exact hk _ _ hb
  exact hk _ _ e
 obtain⟨T,o,hT,hphi,ho,hrel⟩:=hI.cont b _ (hD b Zs) hb;obtain⟨v0,hv0,r0⟩:=hpw 0 _ rfl;obtain⟨T',o',cap,hT',hcap,hoff,hk,rfl⟩:=r0.inv_sl;obtain rfl:T'=T:=by rw[hT]at hT';exact(Yh hT').symm
 obtain⟨arr,t,rfl,hsz,hbd,hpw0⟩:∃arr t,o=.cells arr t (0,0)∧arr.size=T'.tot∧T'.sh+(strs d++rest).length≤T'.tot∧PW g (strs d++rest) (fun i=>arr[T'.sh+i]?):=by
  cases hrel with
  |cells h1 h2 h3=>exact⟨_,_,rfl,h1,h2,h3⟩
 have hvs2:vs=#[.slice (some ⟨T'.c,o',none⟩) d.length cap]:=by
  apply Yao;intro i;match i with
  |0=>exact hv0
  |i+1=>rw[Yr (by simp at hvs;omega)];simp
 subst hvs2;have hoff':d.length≠0→o'=T'.sh:=fun h=>by have:=(hoff Zo).1;omega
 have hblk:T'.c<w.heap.size:=(YA.1 ho).1;have hcell:∀j,j<d.length→arr[T'.sh+j]? =some (encStr (d.getD j [])):=by
  intro j hj;have hx:(strs d++rest)[j]? =some (.str (d.getD j [])):=by rw[YP (by rw[zcm];exact hj)];simp[strs,hj]
  obtain⟨u,hu,ru⟩:=hpw0 j _ hx;obtain⟨s,rfl,hs'⟩:=ru.inv_str;have hu':arr[T'.sh+j]? =some (.string s):=hu;rw[hu',←hs']
 have hH:Holds encStr w T'.c o' d.toArray:=by
  intro j hj;have hj':j<d.length:=by simpa using hj
  refine⟨?_,?_⟩
  ·rw[hoff' Zo];unfold World.cell?;simp only[ho];have:=hcell j hj';simp only[this];simp[hj']
  simp[World.frozen?,ho]
 refine .inl ⟨hs _ _,(hc T'.c o' cap w hH hblk hcap).mono fun e w' h=>?_⟩;obtain⟨rfl,q,os,rfl⟩:=h;let w2:World:=putRow encStr (Sort.ahead w q) T'.c o' d'.toArray
 have h2c:w2.heap[T'.c]? =some (.cells (Go.Sort.putCells encStr o' d'.toArray arr) t (0,0)):=by show ((w.heap.modify T'.c _)[T'.c]?)=_;rw[YaF,Yi rfl,ho];rfl
 have h2o:∀c,c≠T'.c→w2.heap[c]? =w.heap[c]? :=by intro c hne;show ((w.heap.modify T'.c _)[c]?)=_;rw[YaF,Ye (fun e=>hne e.symm)]
 have h2s:w2.heap.size=w.heap.size:=by show (w.heap.modify T'.c _).size=_;simp
 have hrel2:BlkRel g (.cells (strs d'++rest)) T' (.cells (Go.Sort.putCells encStr o' d'.toArray arr) t (0,0)):=by
  have hl2:(strs d'++rest).length=(strs d++rest).length:=by simp[strs,hlen]
  refine .cells (by unfold Go.Sort.putCells;simpa using hsz) (by rw[hl2];exact hbd) fun i x hx=>?_;show ∃u,(Go.Sort.putCells encStr o' d'.toArray arr)[T'.sh+i]? =some u∧VRel g x u;unfold Go.Sort.putCells;rw[Array.getElem?_mapIdx];by_cases hi:i<d.length
  ·have hx':x=.str (d'.getD i []):=by rw[YP (by rw[zcm];omega)]at hx;simp only[strs,YT,YN]at hx;obtain⟨a,ha,rfl⟩:=hx;rw[Ya,ha];rfl
   subst hx';rw[hcell i hi,hoff' Zo];refine⟨encStr (d'.getD i []),?_,.str rfl⟩;simp only[Yap,Yx];rw[Yi ⟨Zo,by simp;omega⟩,show T'.sh+i-T'.sh=i by omega];congr 1;rw[getElem!_pos _ _ (by simp;omega)];rw[Ya,Yb Zo];simp
  have hx':(strs d++rest)[i]? =some x:=by rw[Yak (by rw[zcm];omega),zcm]at hx ⊢;rwa [hlen]at hx
  obtain⟨u,hu,ru⟩:=hpw0 i x hx';refine⟨u,?_,ru⟩;have hu':arr[T'.sh+i]? =some u:=hu;rw[hu'];simp only[Yap,Yx];by_cases h0:d.length=0
  ·rw[Ye (by simp;omega)]
  rw[Ye (by rw[hoff' h0];simp;omega)]
 have p1:Post g g base H (H.put b (.cells (strs d'++rest))) D [b] w w2:=Post.put hI (hD b Zs) hb hT h2c h2o h2s rfl ⟨rfl,zsF (Nat.le_add_right _ _)⟩ rfl hrel2;have hbel:Bel w2.heap.size w2 (grow w2 os):=⟨rfl,⟨rfl,Yc _⟩,rfl,by simp[grow],fun k hk=>heap_grow_old w2 os hk⟩;have p2:=Post.pure (D:=fun k=>D k∨H.next≤k) p1.inv (fun _=>none) hbel (fun c a e=>by cases e);have p:=Post.trans hI p1 p2;refine⟨_,_,rfl,?_,(by simpa using p:Post g (g.more fun _=>none) base H (H.put b (.cells (strs d'++rest))) D [b] w (grow w2 os))⟩;cases ret with
 |none=>exact Xf rfl PW.nil
 |some m=>have hm:=hret m rfl;exact(VRel.sl (len:=m) hT Zo hoff hk).mono (by exact p.le)
end Go.Ab

namespace Go.Proofs
open Go.Ab
end Go.Proofs

namespace Go.Ab
variable {P:Program}
abbrev FTab:=List (ZA×V)
abbrev Tab:=List (FuncId×FTab)
def FTabOK(P:Program)(f:FuncId)(L:FTab):Prop:=∀q∈L,PCall P f q.1 (.ret q.2)
def FTabOK.nil {f:FuncId}:FTabOK P f []:=fun _ h=>by cases h
def FTabOK.append {f:FuncId}{L M:FTab}(h:FTabOK P f L)(k:FTabOK P f M):FTabOK P f (L++M):=fun q hq=>(Yam.1 hq).elim (h q) (k q)
def TabOK(P:Program)(T:Tab):Prop:=∀e∈T,FTabOK P e.1 e.2
def TabOK.nil:TabOK P []:=fun _ h=>by cases h
def TabOK.cons {f:FuncId}{L:FTab}{T:Tab}(h:FTabOK P f L)(k:TabOK P T):TabOK P ((f,L)::T):=fun e he=>by
 rcases Yy.1 he with rfl|he
 ·exact h
 exact k e he
end Go.Ab

namespace Go.Proofs
open Go.Ab
end Go.Proofs

namespace Go.Proofs
open Tryz Go.Ab Go.Cnt Go.Shelf Go.Sort Go.Lib
def call59:zk prog 59:=ZF
def call60:zk prog 60:=ZF
def za4(a b:List Str):strs (a++b)=strs a++strs b:=by simp[strs]
def zerS(n:Nat):List Str:=List.replicate n []
def RowF(ex:ZA)(c:List Str→Nat→Prop)(g:List Str→Nat→List Str)(v:List Str→Nat→Nat→V)(args:ZA)(H:Hp)(r:AR):Prop:=
 ∃b X m,args=.sl b 0 m 1 none::ex∧H.get b=some (.cells (strs X))∧c X m∧(∀b x,H.get b=some x→b<H.next)∧r=⟨True,v X m b,H.put b (.cells (strs (g X m))),[b],[b]⟩
def zuj {ex:ZA}{c:List Str→Nat→Prop}{g:List Str→Nat→List Str}{v:List Str→Nat→Nat→V}(b m:Nat)(X:List Str)(bs:ZH)(nx:Nat)(hb:zG bs b=some (.cells (strs X)))(hc:c X m)(hk:((keysB bs).all fun b=>decide (b<nx))=true):conD (RowF ex c g v) (.sl b 0 m 1 none::ex) ⟨bs,nx⟩=some ⟨True,v X m b,(⟨bs,nx⟩:Hp).put b (.cells (strs (g X m))),[b],[b]⟩:=by
 have hR:RowF ex c g v (.sl b 0 m 1 none::ex) ⟨bs,nx⟩ ⟨True,v X m b,(⟨bs,nx⟩:Hp).put b (.cells (strs (g X m))),[b],[b]⟩:=⟨b,X,m,rfl,(zC bs b).trans hb,hc,zaZ hk,rfl⟩;refine zan hR ?_;rintro r' ⟨b',X',m',e,hb',_,_,rfl⟩;simp only[Yt,V.sl.injEq,Yad,Yag]at e;obtain⟨rfl,rfl⟩:=e;rw[show (⟨bs,nx⟩:Hp).get b=some (.cells (strs X))from(zC bs b).trans hb]at hb';have:strs X=strs X':=by simpa using hb'
 rw[zbv this]
def srtS(l:List Str):List Str:=l.mergeSort fun x y=>decide (x≤y)
def zjs(l:List Str):(srtS l).length=l.length:=List.length_mergeSort ..
def SrtR:=RowF [] (fun X m=>m≤X.length∧X.length≤1000000) (fun X m=>srtS (X.take m)++X.drop m) fun _ _ _=>.tup []
def zt6:∀args H r,SrtR args H r→HCall prog 59 args H r:=by
 rintro args H r ⟨b,X,m,rfl,hb,⟨hm,hX⟩,hk,rfl⟩;have hl:(X.take m).length=m:=by simp;omega
 have hb':H.get b=some (.cells (strs (X.take m)++strs (X.drop m))):=by rw[←za4,Yaf];exact hb
 have h:=zit (P:=prog) (f:=59) call59 (d:=X.take m) (d':=srtS (X.take m)) (rest:=strs (X.drop m)) (zjs _) none (fun m h=>by cases h)
  (fun blk off cap w hH hblk hcap=>(calls_of_every_depth fun D=>AnyS.slices_Sort_string_in laysS190 D blk off cap (X.take m) w hH hblk Zo)) hb'
 rw[hl,←za4]at h;exact h
def zhA(X:List Str)(m:Nat):List Str:=compact (X.take m)
def zet(zs:List Str):(compact zs).length≤zs.length:=by unfold compact compactUpTo;rw[Yan];refine Yw (List.length_filter_le ..) ?_;simp
def CmpR:=RowF [] (fun X m=>m≤X.length∧X.length≤1000000) (fun X m=>(zhA X m++zerS (m-(zhA X m).length))++X.drop m) fun X m b=>.sl b 0 (zhA X m).length 1 none
def zwi(w:World):grow w #[]=w:=by simp[grow]
def zwW:∀args H r,CmpR args H r→HCall prog 60 args H r:=by
 rintro args H r ⟨b,X,m,rfl,hb,⟨hm,hX⟩,hk,rfl⟩;have hl:(X.take m).length=m:=by simp;omega
 have hcl:=zet (X.take m);rw[hl]at hcl;have hb':H.get b=some (.cells (strs (X.take m)++strs (X.drop m))):=by rw[←za4,Yaf];exact hb
 have h:=zit (P:=prog) (f:=60) call60 (d:=X.take m) (d':=zhA X m++zerS (m-(zhA X m).length)) (rest:=strs (X.drop m)) (by rw[hl];simp[zerS,zhA];omega) (some (zhA X m).length) (fun m' h=>by cases h;rw[hl];exact hcl)
  (fun blk off cap w hH hblk hcap=>(Any.slices_Compact_string laysS194 blk off cap (X.take m) w hH Zo hcap).mono fun e w' h=>by obtain⟨rfl,q,rfl⟩:=h;rw[hl];exact⟨rfl,q,#[],(zwi _).symm⟩) hb'
 rw[hl,←za4]at h;exact h
def lt_bl:∀a b:Str,a<b↔Op.bytesLess a b=true
 |[],[]=>by simp[Op.bytesLess]
 |[],y::b=>by simp[Op.bytesLess]
 |x::a,[]=>by simp[Op.bytesLess]
 |x::a,y::b=>by rw[List.cons_lt_cons_iff,zkE,lt_bl a b]
def le_bl(a b:Str):a≤b↔Op.bytesLess b a=false:=by show ¬b<a↔_;rw[lt_bl];simp
def zei(l:List Str):(srtS l).Pairwise fun a b=>Op.bytesLess b a=false:=by
 have h:=List.pairwise_mergeSort (le:=fun x y:Str=>decide (x≤y)) (fun a b c h1 h2=>by
  rw[Yn,le_bl]at*;cases e:Op.bytesLess c a with
  |false=>rfl
  |true=>
   rcases zmE a b with k|k|k
   ·rw[zfb e k]at h2;cases h2
   ·subst k;rw[e]at h2;cases h2
   rw[k]at h1;cases h1) (fun a b=>by
  simp only[Yaj,Yn,le_bl];cases e:Op.bytesLess b a with
  |false=>exact .inl rfl
  |true=>exact .inr (zqq e)) l
 exact h.imp fun h=>(le_bl _ _).1 (by simpa using h)
def srtS_mem {l:List Str}{y:Str}:y∈srtS l↔y∈l:=(List.mergeSort_perm l _).mem_iff
def zeu {zs:List Str}(h:zs.Pairwise fun a b=>Op.bytesLess b a=false):IncS (compact zs)∧∀y,y∈compact zs↔y∈zs:=by
 have hd:∀j,j<zs.length→zs.toArray[j]! =zs.getD j []:=fun j hj=>by rw[getElem!_pos zs.toArray j (by simpa using hj)];simp[hj]
 have hs:∀i j,i<j→j<zs.length→Op.bytesLess (zs.getD j []) (zs.getD i [])=false:=fun i j hij hj=>by have:=List.pairwise_iff_getElem.1 h i j Zo hj hij;rw[Ya,Ya,Yb hj,Yb Zo];exact this
 have key:∀m,m≤zs.length→IncS (compactUpTo zs.toArray m)∧∀y,y∈compactUpTo zs.toArray m↔∃j,j<m∧zs.getD j []=y:=by
  intro m;induction m with
  |zero=>intro _;exact⟨List.Pairwise.nil,fun y=>by simp[compactUpTo]⟩
  |succ m ih=>
   intro hm;obtain⟨i1,i2⟩:=ih Zo;rw[compactUpTo_succ];by_cases hk:keeps zs.toArray m=true
   ·rw[Yi hk,hd m Zo];have hne:m=0∨zs.getD m []≠zs.getD (m-1) []:=by
     have:=Yah hk;rw[hd m Zo]at this;rcases this with h0|h0
     ·exact .inl h0
     by_cases hm0:m=0
     ·exact .inl hm0
     rw[hd (m-1) Zo]at h0;exact .inr h0
    refine⟨List.pairwise_append.2 ⟨i1,Zs,fun a ha b hb=>?_⟩,fun y=>?_⟩
    ·obtain⟨j,hj,rfl⟩:=(i2 a).1 ha;obtain rfl:=YB.1 hb;rcases hne with h0|h0
     ·omega
     have h1:Op.bytesLess (zs.getD (m-1) []) (zs.getD m [])=true:=by
      rcases zmE (zs.getD (m-1) []) (zs.getD m [])with k|k|k
      ·exact k
      ·exact absurd k.symm h0
      rw[hs (m-1) m Zo Zo]at k;cases k
     by_cases hj1:j=m-1
     ·subst hj1;exact h1
     have h2:=hs j (m-1) Zo Zo;rcases zmE (zs.getD j []) (zs.getD (m-1) [])with k|k|k
     ·exact zfb k h1
     ·rw[k];exact h1
     rw[h2]at k;cases k
    rw[Yam,i2 y,YB];constructor
    ·rintro(⟨j,hj,e⟩|rfl)
     ·exact⟨j,Zo,e⟩
     exact⟨m,Zo,rfl⟩
    rintro⟨j,hj,e⟩;by_cases hjm:j=m
    ·subst hjm;exact .inr e.symm
    exact .inl ⟨j,Zo,e⟩
   rw[Ye hk,Yab];refine⟨i1,fun y=>?_⟩;have hk':¬(m=0∨zs.toArray[m]! ≠zs.toArray[m-1]!):=fun h=>hk (Yf h);rw[i2 y];constructor
   ·rintro⟨j,hj,e⟩;exact⟨j,Zo,e⟩
   rintro⟨j,hj,e⟩;by_cases hjm:j=m
   ·subst hjm;refine⟨j-1,Zo,?_⟩;have:zs.toArray[j]! =zs.toArray[j-1]! :=Classical.not_not.1 fun h=>hk' (.inr h);rw[hd j Zo,hd (j-1) Zo]at this;rw[←this,e]
   exact⟨j,Zo,e⟩
 obtain⟨k1,k2⟩:=key zs.length (Yc _);refine⟨k1,fun y=>?_⟩;show y∈compactUpTo zs.toArray zs.length↔_;rw[k2 y];constructor
 ·rintro⟨j,hj,rfl⟩;exact zwl hj
 intro hy;obtain⟨j,hj,rfl⟩:=YaB.1 hy;exact⟨j,hj,by rw[Ya,Yb hj];rfl⟩
end Go.Proofs
