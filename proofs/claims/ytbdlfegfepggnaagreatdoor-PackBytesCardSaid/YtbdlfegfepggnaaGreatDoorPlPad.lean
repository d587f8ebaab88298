/- Blocks of nine digits as text. -/
import Derived.Test.YtbdlfegfepggnaaGreatDoorQNat5
import Derived.Test.YtbdlfegfepggnaaGreatDoorAbWalk
import Derived.Laws.Externs
set_option linter.all false
set_option maxHeartbeats 16000000
set_option maxRecDepth 100000
noncomputable section
namespace Go.Pl
def zsU(k:Nat)(s:ZL):valD (List.replicate k 48++s)=valD s:=by
 rw[zb3];have:valD (List.replicate k 48)=0:=by
  induction k with
  |zero=>rfl
  |succ k ih=>rw[Ybo,zbS,ih];have:(48:UInt8).toNat-48=0:=rfl;rw[this,Y9]
 rw[this,Y9,Yan]
def zzd {v:Nat}(h:0<v):((dec v).getD 0 0).toNat≠48:=by
 by_cases h1:10≤v
 ·exact zrY h1
 rw[zbF Zo];show (UInt8.ofNat (48+v)).toNat≠48;rw[zbA Zo];omega
def pad_len {d:Nat}(hd:d<1000000000):(List.replicate (9-(dec d).length) (48:UInt8)++dec d).length=9:=by have:(dec d).length≤9:=zcD Zo Zo;simp;omega
def zzb {v d:Nat}(hv:0<v)(hd:d<1000000000):dec (d+1000000000*v)=dec v++(List.replicate (9-(dec d).length) 48++dec d):=by
 have h1:valD (dec v++(List.replicate (9-(dec d).length) 48++dec d))=d+1000000000*v:=by rw[zb3,pad_len hd,zsU,zan,zan];omega
 rw[←h1];refine zg4 ?_ ?_ (.inr ?_)
 ·rw[YbY,YbY,zcO,zcO];simp only[YaA,YaC];refine Yo.2 fun x hx=>?_;have:=YaO hx;rw[this];rfl
 ·exact fun e=>zjO v (List.append_eq_nil_iff.1 e).1
 have hp:=zdR v;rw[Ya,YQ hp,←Ya];exact zzd hv
def topV(l:ZN)(i:Nat):Nat:=valL (l.drop (l.length-i))
def zmg(l:ZN):topV l 0=0:=zca Zo
def zhk {l:ZN}{i:Nat}(h:i<l.length):topV l (i+1)=l.getD (l.length-1-i) 0+1000000000*topV l i:=by unfold topV;rw[zaA,show l.length-(i+1)+1=l.length-i by omega,show l.length-(i+1)=l.length-1-i by omega]
def topV_pos {n i:Nat}(hn:n≠0)(hi:0<i)(hl:i≤(limbs n).length):0<topV (limbs n) i:=by
 have h1:=zcB hn;have h2:topV (limbs n) 1≠0:=by rw[zhk Zo,zmg];simpa using h1
 obtain⟨j,rfl⟩:∃j,i=j+1:=⟨i-1,Zo⟩;clear hi;induction j with
 |zero=>exact YbV h2
 |succ j ih=>have:=ih Zo;rw[zhk Zo];omega
def topV_all(n:Nat):topV (limbs n) (limbs n).length=n:=by unfold topV;rw[Ybz,Y1,zG]
end Go.Pl

namespace Go.Proofs
open Tryz Go.Ab Go.Pl
def FmtOK:Prop:=∀d:Nat,d<1000000000→PCall prog 185 [.int .u64 d,.int .i64 10] (.ret (.str (dec d)))
def RepOK:Prop:=∀k:Nat,k≤8→PCall prog 187 [.str [48],.int .i64 k] (.ret (.str (List.replicate k 48)))
def cFmt:ZV:=zC (fun d:Nat=>[.int .u64 d,.int .i64 10]) (fun d=>d<1000000000) (fun d=>.ret (.str (dec d)))
def cFmt_ok(h:FmtOK):ZC cFmt 185:=zn h
def zqj(d:Nat)(h:d<1000000000):cFmt [.int .u64 d,.int .i64 10]=some (.ret (.str (dec d))):=zo (pat:=fun d:Nat=>[V.int .u64 d,.int .i64 10]) (fun x y h=>by simp at h;omega) d h
def cRep:ZV:=zC (fun k:Nat=>[.str [48],.int .i64 k]) (fun k=>k≤8) (fun k=>.ret (.str (List.replicate k 48)))
def cRep_ok(h:RepOK):ZC cRep 187:=zn h
def zzR(k:Nat)(h:k≤8):cRep [.str [48],.int .i64 k]=some (.ret (.str (List.replicate k 48))):=zo (pat:=fun k:Nat=>[V.str [48],.int .i64 k]) (fun x y h=>by simp at h;omega) k h
def topV_len {l:ZN}(ok:okL l){i:Nat}(hi:i≤l.length):(dec (topV l i)).length≤9*i+1:=by
 refine zcD ?_ Zo;have h1:=valL_lt (zkW ok (l.length-i));rw[YI,show l.length-(l.length-i)=i by omega]at h1;have h3:(10:Nat)^(9*i+1)=1000000000^i*10:=by rw[YM,Nat.pow_mul]
 rw[h3];unfold topV;generalize (1000000000:Nat)^i=p at*;omega
def text_ok(hF:FmtOK)(hR:RepOK)(n:Nat)(hn:(limbs n).length≤100000):PCall prog 175 [.fs (nats .u64 (limbs n)) (limbs n).length] (.ret (.str (dec n))):=by
 have hΓ:=zg (cFmt_ok hF) (zg (cRep_ok hR) zh);refine Xc (rs:=[.tmp 2]) [0,2,3,4,5,8,10,11,12,24] [] mixed (hΓ) (zvK) call175 func175 rfl ntmps175 rfl ?_;by_cases h0:n=0
 ·subst h0;simp only[go_sem,zaL];rfl
 have hl0:0<(limbs n).length:=by
  rcases YT (limbs n).length with h|h
  ·exact absurd (limbs_nil.1 (YB h)) h0
  exact h
 have ok:=zI n;have hpos:=fun i hi hl=>topV_pos (i:=i) h0 hi hl;have hall:=topV_all n;have hsz:∀i,i≤(limbs n).length→(dec (topV (limbs n) i)).length≤1000000:=fun i hi=>by have:=topV_len ok hi;omega
 generalize limbs n=l at*;have hd0:decide ((l.length:Int)=0)=false:=by rw[Yay];omega
 simp(disch:=try exact Zq)only[go_sem,hd0];refine AXs.loop mixed (hΓ) (zvK) (fun i:Nat=>[(0,.fs (nats .u64 l) l.length),(3,.ptr 0 0),(10,.int .i64 l.length),(11,.int .i64 i)]) (fun i=>match i with|0=>⟨[(0,bl0)],1⟩|i+1=>⟨[(0,bl1 0 1 (dec (topV l (i+1))).length),(1,bly (dec (topV l (i+1))))],2⟩) (fun i=>i≤l.length) (fun i=>l.length-i) 0 Zk (Yk _) (Xa [] rfl rfl ?_ ?_) ?_
 ·simp only[go_sem]
 ·simp only[go_sem,bl0,zmC]
 rintro i hi;have hts:=fun h=>zhk (l:=l) (i:=i) h;have hdl:=getD_lt ok (l.length-1-i);rcases i with _|i
 ·have hdt:topV l 1=l.getD (l.length-1) 0:=by have:=hts hl0;rwa [zmg,Y9,Y3,YbA]at this
  rw[YbA]at hdl;have hd1:decide (0<(l.length:Int))=true:=by rw[Yq];omega
  have hn1:dec (l.getD (l.length-1) 0)≠[]:=zjO _;have hs1:=hsz 1 hl0;rw[hdt]at hs1;simp(disch:=try exact Zq)only[go_sem,hd1,zqj,ΔB_0,Int.sub_zero];refine⟨⟨Zo,Zo⟩,Zo,?_⟩;refine zi 1 Zo Zo (Xa [] rfl rfl ?_ ?_)
  ·simp only[go_sem]
  rw[hdt];simp only[go_sem,bl1,bly,zmC];exact zA (zad _)
 simp(disch:=try exact Zq)only[go_sem];refine Xb (fun h1=>?_) (fun h1=>?_)
 ·have hlt:i+1<l.length:=Zo;have hdt:=hts hlt;have hv:=hpos (i+1) Zo hi;have hs1:=hsz (i+1) hi;have hs2:=hsz (i+1+1) hlt;rw[hdt,zzb hv hdl]at hs2;have hcast:(9:Int)-((dec (l.getD (l.length-1-(i+1)) 0)).length:Nat)=((9-(dec (l.getD (l.length-1-(i+1)) 0)).length:Nat):Int):=by have:(dec (l.getD (l.length-1-(i+1)) 0)).length≤9:=zcD Zo Zo;omega
  have hp0:=zdR (l.getD (l.length-1-(i+1)) 0);have hn1:dec (l.getD (l.length-1-(i+1)) 0)≠[]:=zjO _;have hd1:decide (0<((i+1:Nat):Int))=true:=by rw[Yq];omega
  have hpl:(List.replicate (9-(dec (l.getD (l.length-1-(i+1)) 0)).length) (48:UInt8)).length≤1000000:=by simp;omega
  rw[Yd,Yd]at hs2;have hdt':=YaZ dec hdt;rw[zzb hv hdl]at hdt';by_cases hz:9-(dec (l.getD (l.length-1-(i+1)) 0)).length=0
  ·have hpad:List.replicate (9-(dec (l.getD (l.length-1-(i+1)) 0)).length) (48:UInt8)=[]:=by rw[hz];rfl
   rw[hpad,YaK]at hdt';simp(disch:=try exact Zq)only[go_sem,hd1,zqj,hcast,zzR,hpad,ΔB_e,ΔB_1];refine⟨⟨Zo,Zo⟩,Zo,?_⟩;refine zi (i+1+1) hlt Zo (Xa [(1,2)] rfl rfl ?_ ?_)
   ·simp only[go_sem];simp
   rw[hdt'];simp only[Yd];simp only[go_sem,bl1,bly,zmC];exact zA (zad _)
  have hpn:List.replicate (9-(dec (l.getD (l.length-1-(i+1)) 0)).length) (48:UInt8)≠[]:=fun e=>hz (by simpa using congrArg List.length e);have hl2:(dec (topV l (i+1))++List.replicate (9-(dec (l.getD (l.length-1-(i+1)) 0)).length) (48:UInt8)).length≤1000000:=by rw[Yd];omega
  simp(disch:=try exact Zq)only[go_sem,hd1,zqj,hcast,zzR,ΔB_1,ΔB_3,Yd];refine⟨⟨Zo,Zo⟩,Zo,?_⟩;refine zi (i+1+1) hlt Zo (Xa [(1,3)] rfl rfl ?_ ?_)
  ·simp only[go_sem];simp
  rw[hdt'];simp only[Yd,YR,YU];simp only[go_sem,bl1,bly,zmC];exact zA (zad _)
 have hie:i+1=l.length:=Zo;rw[hie,hall];have hs:=hsz (i+1) hi;rw[hie,hall]at hs;have hp:=zdR n;simp(disch:=try exact Zq)only[go_sem];refine AXa.go mixed (hΓ) (zvK) Zk ?_;simp(disch:=try exact Zq)only[go_sem,ΔB_s]
end Go.Proofs

namespace Go.Proofs
open Tryz Go.Ab
def ixB(s:ZL)(c:UInt8):Int:=match s.findIdx? (· ==c)with|some i=>i|none=> -1
def find_range {α:Type} [Inhabited α](l:List α)(p:α→Bool):(List.range l.length).find? (fun i=>p (l.getD i default))=l.findIdx? p:=by
 induction l with
 |nil=>rfl
 |cons a l ih=>
  rw[Yn,List.range_succ_eq_map,List.find?_cons,YbF];have e0:(a::l).getD 0 default=a:=rfl;rw[e0];cases h:p a with
  |true=>rfl
  |false=>simp only[YS,if_false];rw[List.find?_map,←ih];congr 1
def get_bang(s:ByteArray)(i:Nat):s[i]! =s.data.toList.getD i default:=by
 by_cases h:i<s.size
 ·rw[getElem!_pos s i h];have h':i<s.data.toList.length:=h;rw[Ya,Yb h'];rfl
 rw[getElem!_neg s i h];have h':¬i<s.data.toList.length:=h;rw[Ya,Yr Zo];rfl
def index_ok(s:ZL)(c:UInt8):PCall prog 215 [.str s,.int .u8 (c.toNat:Int)] (.ret (.int .i64 (ixB s c))):=by
 intro g w vs _ _ hvs hpw;obtain⟨u0,h0,r0⟩:=hpw 0 _ rfl;obtain⟨u1,h1,r1⟩:=hpw 1 _ rfl;obtain⟨b,rfl,hb⟩:=r0.inv_str;obtain rfl:=r1.inv_int;have hv:vs=#[.string b,.int .u8 (c.toNat:Int)]:=by
  apply YaD;intro i;match i with
  |0=>exact h0
  |1=>exact h1
  |i+2=>rw[Yv (by simp at hvs;omega)];rfl
 subst hv;refine .inr ⟨.int .i64 (ixB s c),w,?_,fun _=>none,.int .i64 (ixB s c),fun c a e=>(by cases e),Bel.refl _ _,rfl,.int _ _⟩;rw[run_callFunc_extern (fn:=Tryz.f215) func215 Zk rfl rfl (e:=Go.Extern.BytealgIndexByte.indexByte) Zk];have hI:(Go.Extern.BytealgIndexByte.indexByte #[.string b,.int .u8 (c.toNat:Int)]).run prog w=(match (List.range b.size).find? (fun i=>b[i]! ==(c.toNat:Int).toNat.toUInt8)with|some i=>Result.ok (.int .i64 (i:Int)) w|none=>.ok (.int .i64 (-1)) w):=by
  show ((match (List.range b.size).find? (fun i=>b[i]! ==(c.toNat:Int).toNat.toUInt8)with|some i=>pure (goInt i)|none=>pure (goInt (-1)):Sem Value)).run prog w=_;cases (List.range b.size).find? (fun i=>b[i]! ==(c.toNat:Int).toNat.toUInt8)<;>rfl
 have e1:(fun i=>b[i]! ==c)=fun i=>(fun x=>x==c) (b.data.toList.getD i default):=by funext i;rw[get_bang]
 have e2:b.size=b.data.toList.length:=rfl;have e3:((c.toNat:Int).toNat.toUInt8)=c:=Zs;rw[hI,e3,show List.find? (fun i=>b[i]! ==c) (List.range b.size)=s.findIdx? (fun x=>x==c)from by(rw[e1,e2,←hb];exact find_range b.data.toList (fun x=>x==c))];unfold ixB;cases s.findIdx? (fun x=>x==c)<;>rfl
end Go.Proofs

namespace Go.Proofs
open Tryz Go.Ab Go.Pl
def zAu:ZV:=zC (fun p:ZL×UInt8=>[.str p.1,.int .u8 (p.2.toNat:Int)]) (fun _=>True) (fun p=>.ret (.int .i64 (ixB p.1 p.2)))
def zvp:ZC zAu 215:=zn fun p _=>index_ok p.1 p.2
@[go_sem]def cIndexB_eq(s:ZL)(c:UInt8):zAu [.str s,.int .u8 (c.toNat:Int)]=some (.ret (.int .i64 (ixB s c))):=zo (fun p q h=>by simp at h;obtain⟨h1,h2⟩:=h;have:p.2=q.2:=YaY.1 Zo;exact Yai h1 this) (s,c) trivial
theorem znk(s:ZL)(c:UInt8):PCall prog 203 [.str s,.int .u8 (c.toNat:Int)] (.ret (.int .i64 (ixB s c))):=by have hΓ:=zg zvp zh;refine Xc (rs:=[.tmp 4]) [0,1,4] [] mixed (hΓ) (zf) call203 func203 rfl ntmps203 rfl ?_;simp only[go_sem]
def zjV:ZV:=zC (fun p:ZL×UInt8=>[.str p.1,.int .u8 (p.2.toNat:Int)]) (fun _=>True) (fun p=>.ret (.int .i64 (ixB p.1 p.2)))
def zlL:ZC zjV 203:=zn fun p _=>znk p.1 p.2
@[go_sem]def cIndexByte_eq(s:ZL)(c:UInt8):zjV [.str s,.int .u8 (c.toNat:Int)]=some (.ret (.int .i64 (ixB s c))):=zo (fun p q h=>by simp at h;obtain⟨h1,h2⟩:=h;have:p.2=q.2:=YaY.1 Zo;exact Yai h1 this) (s,c) trivial
def zyH(s:ZL)(c:UInt8):PCall prog 193 [.str s,.str [c]] (.ret (.int .i64 (ixB s c))):=by
 have hΓ:=zg zlL zh;refine Xc (rs:=[.tmp 4]) [0,1,4,5,6,7,8,9,10,11,12,13,16,24,31,36,59,64,73,93,107,114,132,139] [] mixed (hΓ) (zf) call193 func193 rfl ntmps193 rfl ?_;simp only[go_sem];refine Xb (fun h1=>?_) (fun h1=>?_)
 ·have h2:ixB s c=0:=by rw[←h1];simp[ixB,YbF]
  simp only[go_sem,h2]
 simp only[go_sem];rfl
def zAv:ZV:=zC (fun p:ZL×UInt8=>[.str p.1,.str [p.2]]) (fun _=>True) (fun p=>.ret (.int .i64 (ixB p.1 p.2)))
def zvq:ZC zAv 193:=zn fun p _=>zyH p.1 p.2
@[go_sem]def cIndex1_eq(s:ZL)(c:UInt8):zAv [.str s,.str [c]]=some (.ret (.int .i64 (ixB s c))):=zo (fun p q h=>by simp at h;exact Yai h.1 h.2) (s,c) trivial
def cutV(s:ZL)(c:UInt8):V:=match s.findIdx? (· ==c)with
 |some i=>.tup [.str (s.take i),.str (s.drop (i+1)),.bool true]
 |none=>.tup [.str s,.str [],.bool false]
def zuM {s:ZL}{c:UInt8}{i:Nat}(h:s.findIdx? (· ==c)=some i):i<s.length:=by rw[Ya1]at h;exact h.1
def cutL_ok(s:ZL)(c:UInt8)(hs:s.length≤1000000000):PCall prog 180 [.str s,.str [c]] (.ret (cutV s c)):=by
 have hΓ:=zg zvq zh;refine Xc (rs:=[.tmp 4,.tmp 5,.tmp 6]) [0,1,4,5,6,7,12] [] mixed (hΓ) (zf) call180 func180 rfl ntmps180 rfl ?_;simp only[go_sem];have hx:ixB s c=match s.findIdx? (· ==c)with|some i=>(i:Int)|none=> -1:=rfl
 unfold cutV;cases h:s.findIdx? (· ==c)with
 |none=>rw[h]at hx;simp only at hx;rw[hx];simp only[go_sem]
 |some i=>
  rw[h]at hx;simp only at hx;rw[hx];have hi:=zuM h;simp only[go_sem];refine Xb (fun h1=>?_) (fun h1=>?_);rotate_left;·omega
  simp(disch:=try exact Zq)only[go_sem];refine⟨⟨Zo,Zo⟩,⟨Zo,Zo,Zo⟩,?_⟩;rw[Ym]
def cutV_tup(s:ZL)(c:UInt8):∃a b d,cutV s c=.tup [.str a,.str b,.bool d]:=by unfold cutV;split<;>exact⟨_,_,_,rfl⟩
def cCutL:ZV:=zC (fun p:ZL×UInt8=>[.str p.1,.str [p.2]]) (fun p=>p.1.length≤1000000000) (fun p=>.ret (cutV p.1 p.2))
def cCutL_ok:ZC cCutL 180:=zn fun p h=>cutL_ok p.1 p.2 h
@[go_sem]def cCutL_eq(s:ZL)(c:UInt8)(h:s.length≤1000000000):cCutL [.str s,.str [c]]=some (.ret (cutV s c)):=zo (fun p q h=>by simp at h;exact Yai h.1 h.2) (s,c) h
def cut_ok(s:ZL)(c:UInt8)(hs:s.length≤1000000000):PCall prog 160 [.str s,.str [c]] (.ret (cutV s c)):=by have hΓ:=zg cCutL_ok zh;refine Xc (rs:=[.tmp 4,.tmp 5,.tmp 6]) [0,1,4,5,6] [] mixed (hΓ) (zf) call160 func160 rfl ntmps160 rfl ?_;obtain⟨a,b,d,h⟩:=cutV_tup s c;simp(disch:=try exact Zq)only[go_sem,h]
def cCut:ZV:=zC (fun p:ZL×UInt8=>[.str p.1,.str [p.2]]) (fun p=>p.1.length≤1000000000) (fun p=>.ret (cutV p.1 p.2))
def cCut_ok:ZC cCut 160:=zn fun p h=>cut_ok p.1 p.2 h
@[go_sem]def cCut_eq(s:ZL)(c:UInt8)(h:s.length≤1000000000):cCut [.str s,.str [c]]=some (.ret (cutV s c)):=zo (fun p q h=>by simp at h;exact Yai h.1 h.2) (s,c) h
def zlr(s p:ZL):PCall prog 192 [.str s,.str p] (.ret (.bool (p.isPrefixOf s))):=by
 refine Xc (rs:=[.tmp 4]) [0,1,4] [] mixed (zh) (zf) call192 func192 rfl ntmps192 rfl ?_;simp only[go_sem];refine⟨fun h=>⟨h,Zo,by simpa using h⟩,?_⟩;rw[Ybp];simp only[Yg,Yq,List.isPrefixOf_iff_prefix];constructor
 ·rintro⟨h1,h2⟩;rw[←h2];exact List.take_prefix _ _
 rintro⟨t,rfl⟩;exact⟨by simp;omega,Zs⟩
def ziv:ZV:=zC (fun p:ZL×ZL=>[.str p.1,.str p.2]) (fun _=>True) (fun p=>.ret (.bool (p.2.isPrefixOf p.1)))
def zeP:ZC ziv 192:=zn fun p _=>zlr p.1 p.2
@[go_sem]def cHasPrefixL_eq(s p:ZL):ziv [.str s,.str p]=some (.ret (.bool (p.isPrefixOf s))):=zo (fun p q h=>by simp at h;exact Yai h.1 h.2) (s,p) trivial
theorem znl(s p:ZL):PCall prog 199 [.str s,.str p] (.ret (.bool (p.isPrefixOf s))):=by have hΓ:=zg zeP zh;refine Xc (rs:=[.tmp 4]) [0,1,4] [] mixed (hΓ) (zf) call199 func199 rfl ntmps199 rfl ?_;simp only[go_sem]
def zjW:ZV:=zC (fun p:ZL×ZL=>[.str p.1,.str p.2]) (fun _=>True) (fun p=>.ret (.bool (p.2.isPrefixOf p.1)))
def za6:ZC zjW 199:=zn fun p _=>znl p.1 p.2
@[go_sem]def cHasPrefix_eq(s p:ZL):zjW [.str s,.str p]=some (.ret (.bool (p.isPrefixOf s))):=zo (fun p q h=>by simp at h;exact Yai h.1 h.2) (s,p) trivial
def zbu(s p:ZL):V:=if p.isPrefixOf s=true then .tup [.str (s.drop p.length),.bool true]else .tup [.str s,.bool false]
def zpW(s p:ZL):PCall prog 179 [.str s,.str p] (.ret (zbu s p)):=by
 have hΓ:=zg zeP zh;refine Xc (rs:=[.tmp 4,.tmp 5]) [0,1,4,5,9] [] mixed (hΓ) (zf) call179 func179 rfl ntmps179 rfl ?_;unfold zbu;cases h:p.isPrefixOf s with
 |false=>simp only[go_sem,h]
 |true=>
  have hl:p.length≤s.length:=by rw[List.isPrefixOf_iff_prefix]at h;obtain⟨t,rfl⟩:=h;simp
  simp(disch:=try exact Zq)only[go_sem,h,Ym];omega
def znE(s p:ZL):∃a d,zbu s p=.tup [.str a,.bool d]:=by unfold zbu;split<;>exact⟨_,_,rfl⟩
def zn0:ZV:=zC (fun p:ZL×ZL=>[.str p.1,.str p.2]) (fun _=>True) (fun p=>.ret (zbu p.1 p.2))
def znZ:ZC zn0 179:=zn fun p _=>zpW p.1 p.2
@[go_sem]def cCutPrefL_eq(s p:ZL):zn0 [.str s,.str p]=some (.ret (zbu s p)):=zo (fun p q h=>by simp at h;exact Yai h.1 h.2) (s,p) trivial
theorem zuX(s p:ZL):PCall prog 159 [.str s,.str p] (.ret (zbu s p)):=by have hΓ:=zg znZ zh;refine Xc (rs:=[.tmp 4,.tmp 5]) [0,1,4,5] [] mixed (hΓ) (zf) call159 func159 rfl ntmps159 rfl ?_;obtain⟨a,d,h⟩:=znE s p;simp(disch:=try exact Zq)only[go_sem,h]
def zsn:ZV:=zC (fun p:ZL×ZL=>[.str p.1,.str p.2]) (fun _=>True) (fun p=>.ret (zbu p.1 p.2))
def zqk:ZC zsn 159:=zn fun p _=>zuX p.1 p.2
@[go_sem]def cCutPref_eq(s p:ZL):zsn [.str s,.str p]=some (.ret (zbu s p)):=zo (fun p q h=>by simp at h;exact Yai h.1 h.2) (s,p) trivial
def zfb:zk prog 213:=ZF
def zfc:zk prog 198:=ZF
def ipx(a c:UInt8)(l r:ZL):List.isPrefixOf [a] (List.append (c::l) r)=(a==c):=by show (a==c&&true)=_;rw[YaC]
def and1:Go.bits .and .u64 1 4294967295=1:=Zk
def and0:Go.bits .and .u64 0 4294967295=0:=Zk
def and_2:Go.bits .and .u64 2 4294967295=2:=Zk
def mul64_2:PCall prog 213 [.int .u64 1,.int .u64 2] (.ret (.tup [.int .u64 0,.int .u64 2])):=by refine Xc (rs:=[.tmp 4,.tmp 5]) [0,1,4,5,6,7,8,9,10,11,12,13] [] mixed (zh) (zf) zfb func213 rfl ntmps213 rfl ?_;simp(disch:=try exact Zq)only[go_sem,and1,and0,and_2];kernel_rfl
def cM64_2:ZV:=zC (fun _:Unit=>[.int .u64 1,.int .u64 2]) (fun _=>True) (fun _=>.ret (.tup [.int .u64 0,.int .u64 2]))
def zAp:ZC cM64_2 213:=zn fun _ _=>mul64_2
def zAq:cM64_2 [.int .u64 1,.int .u64 2]=some (.ret (.tup [.int .u64 0,.int .u64 2])):=zo (pat:=fun _:Unit=>[V.int .u64 1,.int .u64 2]) (fun _ _ _=>rfl) () trivial
def mul_2:PCall prog 198 [.int .u64 1,.int .u64 2] (.ret (.tup [.int .u64 0,.int .u64 2])):=by refine Xc (rs:=[.tmp 4,.tmp 5]) [0,1,4,5,6,7,8,9] [] mixed (zg zAp zh) (zf) zfc func198 rfl ntmps198 rfl ?_;simp(disch:=try exact Zq)only[go_sem,zAq]
def cM_2:ZV:=zC (fun _:Unit=>[.int .u64 1,.int .u64 2]) (fun _=>True) (fun _=>.ret (.tup [.int .u64 0,.int .u64 2]))
def cM_2_ok:ZC cM_2 198:=zn fun _ _=>mul_2
def cM_2_eq:cM_2 [.int .u64 1,.int .u64 2]=some (.ret (.tup [.int .u64 0,.int .u64 2])):=zo (pat:=fun _:Unit=>[V.int .u64 1,.int .u64 2]) (fun _ _ _=>rfl) () trivial
def rep_2:PCall prog 187 [.str [48],.int .i64 2] (.ret (.str (List.replicate 2 48))):=by refine Xc (rs:=[.tmp 4]) [0,1,4,5,6,7,8,9,10,11,12,14,18,34,40,42,43,49,58,67,76,85,96,104,113] [] mixed (zg cM_2_ok (zg za6 zh)) (zf) zdT func187 rfl ntmps187 rfl ?_;have hg:((([48]:ZL).getD 0 0).toNat:Int)=48:=rfl;have e1:((48:UInt8)==32)=false:=rfl;have e2:((48:UInt8)==45)=false:=rfl;have e3:((48:UInt8)==48)=true:=rfl;simp(disch:=try exact Zq)only[go_sem,cM_2_eq,hg,Ybc,Ya6,ipx,e1,e2,e3,Yah,YaA,YaC];rfl
def and_3:Go.bits .and .u64 3 4294967295=3:=Zk
def mul64_3:PCall prog 213 [.int .u64 1,.int .u64 3] (.ret (.tup [.int .u64 0,.int .u64 3])):=by refine Xc (rs:=[.tmp 4,.tmp 5]) [0,1,4,5,6,7,8,9,10,11,12,13] [] mixed (zh) (zf) zfb func213 rfl ntmps213 rfl ?_;simp(disch:=try exact Zq)only[go_sem,and1,and0,and_3];kernel_rfl
def cM64_3:ZV:=zC (fun _:Unit=>[.int .u64 1,.int .u64 3]) (fun _=>True) (fun _=>.ret (.tup [.int .u64 0,.int .u64 3]))
def zAn:ZC cM64_3 213:=zn fun _ _=>mul64_3
def zAo:cM64_3 [.int .u64 1,.int .u64 3]=some (.ret (.tup [.int .u64 0,.int .u64 3])):=zo (pat:=fun _:Unit=>[V.int .u64 1,.int .u64 3]) (fun _ _ _=>rfl) () trivial
def mul_3:PCall prog 198 [.int .u64 1,.int .u64 3] (.ret (.tup [.int .u64 0,.int .u64 3])):=by refine Xc (rs:=[.tmp 4,.tmp 5]) [0,1,4,5,6,7,8,9] [] mixed (zg zAn zh) (zf) zfc func198 rfl ntmps198 rfl ?_;simp(disch:=try exact Zq)only[go_sem,zAo]
def cM_3:ZV:=zC (fun _:Unit=>[.int .u64 1,.int .u64 3]) (fun _=>True) (fun _=>.ret (.tup [.int .u64 0,.int .u64 3]))
def cM_3_ok:ZC cM_3 198:=zn fun _ _=>mul_3
def cM_3_eq:cM_3 [.int .u64 1,.int .u64 3]=some (.ret (.tup [.int .u64 0,.int .u64 3])):=zo (pat:=fun _:Unit=>[V.int .u64 1,.int .u64 3]) (fun _ _ _=>rfl) () trivial
def rep_3:PCall prog 187 [.str [48],.int .i64 3] (.ret (.str (List.replicate 3 48))):=by refine Xc (rs:=[.tmp 4]) [0,1,4,5,6,7,8,9,10,11,12,14,18,34,40,42,43,49,58,67,76,85,96,104,113] [] mixed (zg cM_3_ok (zg za6 zh)) (zf) zdT func187 rfl ntmps187 rfl ?_;have hg:((([48]:ZL).getD 0 0).toNat:Int)=48:=rfl;have e1:((48:UInt8)==32)=false:=rfl;have e2:((48:UInt8)==45)=false:=rfl;have e3:((48:UInt8)==48)=true:=rfl;simp(disch:=try exact Zq)only[go_sem,cM_3_eq,hg,Ybc,Ya6,ipx,e1,e2,e3,Yah,YaA,YaC];rfl
def and_4:Go.bits .and .u64 4 4294967295=4:=Zk
def mul64_4:PCall prog 213 [.int .u64 1,.int .u64 4] (.ret (.tup [.int .u64 0,.int .u64 4])):=by refine Xc (rs:=[.tmp 4,.tmp 5]) [0,1,4,5,6,7,8,9,10,11,12,13] [] mixed (zh) (zf) zfb func213 rfl ntmps213 rfl ?_;simp(disch:=try exact Zq)only[go_sem,and1,and0,and_4];kernel_rfl
def cM64_4:ZV:=zC (fun _:Unit=>[.int .u64 1,.int .u64 4]) (fun _=>True) (fun _=>.ret (.tup [.int .u64 0,.int .u64 4]))
def zAl:ZC cM64_4 213:=zn fun _ _=>mul64_4
def zAm:cM64_4 [.int .u64 1,.int .u64 4]=some (.ret (.tup [.int .u64 0,.int .u64 4])):=zo (pat:=fun _:Unit=>[V.int .u64 1,.int .u64 4]) (fun _ _ _=>rfl) () trivial
def mul_4:PCall prog 198 [.int .u64 1,.int .u64 4] (.ret (.tup [.int .u64 0,.int .u64 4])):=by refine Xc (rs:=[.tmp 4,.tmp 5]) [0,1,4,5,6,7,8,9] [] mixed (zg zAl zh) (zf) zfc func198 rfl ntmps198 rfl ?_;simp(disch:=try exact Zq)only[go_sem,zAm]
def cM_4:ZV:=zC (fun _:Unit=>[.int .u64 1,.int .u64 4]) (fun _=>True) (fun _=>.ret (.tup [.int .u64 0,.int .u64 4]))
def cM_4_ok:ZC cM_4 198:=zn fun _ _=>mul_4
def cM_4_eq:cM_4 [.int .u64 1,.int .u64 4]=some (.ret (.tup [.int .u64 0,.int .u64 4])):=zo (pat:=fun _:Unit=>[V.int .u64 1,.int .u64 4]) (fun _ _ _=>rfl) () trivial
def rep_4:PCall prog 187 [.str [48],.int .i64 4] (.ret (.str (List.replicate 4 48))):=by refine Xc (rs:=[.tmp 4]) [0,1,4,5,6,7,8,9,10,11,12,14,18,34,40,42,43,49,58,67,76,85,96,104,113] [] mixed (zg cM_4_ok (zg za6 zh)) (zf) zdT func187 rfl ntmps187 rfl ?_;have hg:((([48]:ZL).getD 0 0).toNat:Int)=48:=rfl;have e1:((48:UInt8)==32)=false:=rfl;have e2:((48:UInt8)==45)=false:=rfl;have e3:((48:UInt8)==48)=true:=rfl;simp(disch:=try exact Zq)only[go_sem,cM_4_eq,hg,Ybc,Ya6,ipx,e1,e2,e3,Yah,YaA,YaC];rfl
def and_5:Go.bits .and .u64 5 4294967295=5:=Zk
def mul64_5:PCall prog 213 [.int .u64 1,.int .u64 5] (.ret (.tup [.int .u64 0,.int .u64 5])):=by refine Xc (rs:=[.tmp 4,.tmp 5]) [0,1,4,5,6,7,8,9,10,11,12,13] [] mixed (zh) (zf) zfb func213 rfl ntmps213 rfl ?_;simp(disch:=try exact Zq)only[go_sem,and1,and0,and_5];kernel_rfl
def cM64_5:ZV:=zC (fun _:Unit=>[.int .u64 1,.int .u64 5]) (fun _=>True) (fun _=>.ret (.tup [.int .u64 0,.int .u64 5]))
def zAj:ZC cM64_5 213:=zn fun _ _=>mul64_5
def zAk:cM64_5 [.int .u64 1,.int .u64 5]=some (.ret (.tup [.int .u64 0,.int .u64 5])):=zo (pat:=fun _:Unit=>[V.int .u64 1,.int .u64 5]) (fun _ _ _=>rfl) () trivial
def mul_5:PCall prog 198 [.int .u64 1,.int .u64 5] (.ret (.tup [.int .u64 0,.int .u64 5])):=by refine Xc (rs:=[.tmp 4,.tmp 5]) [0,1,4,5,6,7,8,9] [] mixed (zg zAj zh) (zf) zfc func198 rfl ntmps198 rfl ?_;simp(disch:=try exact Zq)only[go_sem,zAk]
def cM_5:ZV:=zC (fun _:Unit=>[.int .u64 1,.int .u64 5]) (fun _=>True) (fun _=>.ret (.tup [.int .u64 0,.int .u64 5]))
def cM_5_ok:ZC cM_5 198:=zn fun _ _=>mul_5
def cM_5_eq:cM_5 [.int .u64 1,.int .u64 5]=some (.ret (.tup [.int .u64 0,.int .u64 5])):=zo (pat:=fun _:Unit=>[V.int .u64 1,.int .u64 5]) (fun _ _ _=>rfl) () trivial
def rep_5:PCall prog 187 [.str [48],.int .i64 5] (.ret (.str (List.replicate 5 48))):=by refine Xc (rs:=[.tmp 4]) [0,1,4,5,6,7,8,9,10,11,12,14,18,34,40,42,43,49,58,67,76,85,96,104,113] [] mixed (zg cM_5_ok (zg za6 zh)) (zf) zdT func187 rfl ntmps187 rfl ?_;have hg:((([48]:ZL).getD 0 0).toNat:Int)=48:=rfl;have e1:((48:UInt8)==32)=false:=rfl;have e2:((48:UInt8)==45)=false:=rfl;have e3:((48:UInt8)==48)=true:=rfl;simp(disch:=try exact Zq)only[go_sem,cM_5_eq,hg,Ybc,Ya6,ipx,e1,e2,e3,Yah,YaA,YaC];rfl
def and_6:Go.bits .and .u64 6 4294967295=6:=Zk
def mul64_6:PCall prog 213 [.int .u64 1,.int .u64 6] (.ret (.tup [.int .u64 0,.int .u64 6])):=by refine Xc (rs:=[.tmp 4,.tmp 5]) [0,1,4,5,6,7,8,9,10,11,12,13] [] mixed (zh) (zf) zfb func213 rfl ntmps213 rfl ?_;simp(disch:=try exact Zq)only[go_sem,and1,and0,and_6];kernel_rfl
def cM64_6:ZV:=zC (fun _:Unit=>[.int .u64 1,.int .u64 6]) (fun _=>True) (fun _=>.ret (.tup [.int .u64 0,.int .u64 6]))
def zAh:ZC cM64_6 213:=zn fun _ _=>mul64_6
def zAi:cM64_6 [.int .u64 1,.int .u64 6]=some (.ret (.tup [.int .u64 0,.int .u64 6])):=zo (pat:=fun _:Unit=>[V.int .u64 1,.int .u64 6]) (fun _ _ _=>rfl) () trivial
def mul_6:PCall prog 198 [.int .u64 1,.int .u64 6] (.ret (.tup [.int .u64 0,.int .u64 6])):=by refine Xc (rs:=[.tmp 4,.tmp 5]) [0,1,4,5,6,7,8,9] [] mixed (zg zAh zh) (zf) zfc func198 rfl ntmps198 rfl ?_;simp(disch:=try exact Zq)only[go_sem,zAi]
def cM_6:ZV:=zC (fun _:Unit=>[.int .u64 1,.int .u64 6]) (fun _=>True) (fun _=>.ret (.tup [.int .u64 0,.int .u64 6]))
def cM_6_ok:ZC cM_6 198:=zn fun _ _=>mul_6
def cM_6_eq:cM_6 [.int .u64 1,.int .u64 6]=some (.ret (.tup [.int .u64 0,.int .u64 6])):=zo (pat:=fun _:Unit=>[V.int .u64 1,.int .u64 6]) (fun _ _ _=>rfl) () trivial
def rep_6:PCall prog 187 [.str [48],.int .i64 6] (.ret (.str (List.replicate 6 48))):=by refine Xc (rs:=[.tmp 4]) [0,1,4,5,6,7,8,9,10,11,12,14,18,34,40,42,43,49,58,67,76,85,96,104,113] [] mixed (zg cM_6_ok (zg za6 zh)) (zf) zdT func187 rfl ntmps187 rfl ?_;have hg:((([48]:ZL).getD 0 0).toNat:Int)=48:=rfl;have e1:((48:UInt8)==32)=false:=rfl;have e2:((48:UInt8)==45)=false:=rfl;have e3:((48:UInt8)==48)=true:=rfl;simp(disch:=try exact Zq)only[go_sem,cM_6_eq,hg,Ybc,Ya6,ipx,e1,e2,e3,Yah,YaA,YaC];rfl
def and_7:Go.bits .and .u64 7 4294967295=7:=Zk
def mul64_7:PCall prog 213 [.int .u64 1,.int .u64 7] (.ret (.tup [.int .u64 0,.int .u64 7])):=by refine Xc (rs:=[.tmp 4,.tmp 5]) [0,1,4,5,6,7,8,9,10,11,12,13] [] mixed (zh) (zf) zfb func213 rfl ntmps213 rfl ?_;simp(disch:=try exact Zq)only[go_sem,and1,and0,and_7];kernel_rfl
def cM64_7:ZV:=zC (fun _:Unit=>[.int .u64 1,.int .u64 7]) (fun _=>True) (fun _=>.ret (.tup [.int .u64 0,.int .u64 7]))
def zAf:ZC cM64_7 213:=zn fun _ _=>mul64_7
def zAg:cM64_7 [.int .u64 1,.int .u64 7]=some (.ret (.tup [.int .u64 0,.int .u64 7])):=zo (pat:=fun _:Unit=>[V.int .u64 1,.int .u64 7]) (fun _ _ _=>rfl) () trivial
def mul_7:PCall prog 198 [.int .u64 1,.int .u64 7] (.ret (.tup [.int .u64 0,.int .u64 7])):=by refine Xc (rs:=[.tmp 4,.tmp 5]) [0,1,4,5,6,7,8,9] [] mixed (zg zAf zh) (zf) zfc func198 rfl ntmps198 rfl ?_;simp(disch:=try exact Zq)only[go_sem,zAg]
def cM_7:ZV:=zC (fun _:Unit=>[.int .u64 1,.int .u64 7]) (fun _=>True) (fun _=>.ret (.tup [.int .u64 0,.int .u64 7]))
def cM_7_ok:ZC cM_7 198:=zn fun _ _=>mul_7
def cM_7_eq:cM_7 [.int .u64 1,.int .u64 7]=some (.ret (.tup [.int .u64 0,.int .u64 7])):=zo (pat:=fun _:Unit=>[V.int .u64 1,.int .u64 7]) (fun _ _ _=>rfl) () trivial
def rep_7:PCall prog 187 [.str [48],.int .i64 7] (.ret (.str (List.replicate 7 48))):=by refine Xc (rs:=[.tmp 4]) [0,1,4,5,6,7,8,9,10,11,12,14,18,34,40,42,43,49,58,67,76,85,96,104,113] [] mixed (zg cM_7_ok (zg za6 zh)) (zf) zdT func187 rfl ntmps187 rfl ?_;have hg:((([48]:ZL).getD 0 0).toNat:Int)=48:=rfl;have e1:((48:UInt8)==32)=false:=rfl;have e2:((48:UInt8)==45)=false:=rfl;have e3:((48:UInt8)==48)=true:=rfl;simp(disch:=try exact Zq)only[go_sem,cM_7_eq,hg,Ybc,Ya6,ipx,e1,e2,e3,Yah,YaA,YaC];rfl
def and_8:Go.bits .and .u64 8 4294967295=8:=Zk
def mul64_8:PCall prog 213 [.int .u64 1,.int .u64 8] (.ret (.tup [.int .u64 0,.int .u64 8])):=by refine Xc (rs:=[.tmp 4,.tmp 5]) [0,1,4,5,6,7,8,9,10,11,12,13] [] mixed (zh) (zf) zfb func213 rfl ntmps213 rfl ?_;simp(disch:=try exact Zq)only[go_sem,and1,and0,and_8];kernel_rfl
def cM64_8:ZV:=zC (fun _:Unit=>[.int .u64 1,.int .u64 8]) (fun _=>True) (fun _=>.ret (.tup [.int .u64 0,.int .u64 8]))
def zAd:ZC cM64_8 213:=zn fun _ _=>mul64_8
def zAe:cM64_8 [.int .u64 1,.int .u64 8]=some (.ret (.tup [.int .u64 0,.int .u64 8])):=zo (pat:=fun _:Unit=>[V.int .u64 1,.int .u64 8]) (fun _ _ _=>rfl) () trivial
def mul_8:PCall prog 198 [.int .u64 1,.int .u64 8] (.ret (.tup [.int .u64 0,.int .u64 8])):=by refine Xc (rs:=[.tmp 4,.tmp 5]) [0,1,4,5,6,7,8,9] [] mixed (zg zAd zh) (zf) zfc func198 rfl ntmps198 rfl ?_;simp(disch:=try exact Zq)only[go_sem,zAe]
def cM_8:ZV:=zC (fun _:Unit=>[.int .u64 1,.int .u64 8]) (fun _=>True) (fun _=>.ret (.tup [.int .u64 0,.int .u64 8]))
def cM_8_ok:ZC cM_8 198:=zn fun _ _=>mul_8
def cM_8_eq:cM_8 [.int .u64 1,.int .u64 8]=some (.ret (.tup [.int .u64 0,.int .u64 8])):=zo (pat:=fun _:Unit=>[V.int .u64 1,.int .u64 8]) (fun _ _ _=>rfl) () trivial
def rep_8:PCall prog 187 [.str [48],.int .i64 8] (.ret (.str (List.replicate 8 48))):=by refine Xc (rs:=[.tmp 4]) [0,1,4,5,6,7,8,9,10,11,12,14,18,34,40,42,43,49,58,67,76,85,96,104,113] [] mixed (zg cM_8_ok (zg za6 zh)) (zf) zdT func187 rfl ntmps187 rfl ?_;have hg:((([48]:ZL).getD 0 0).toNat:Int)=48:=rfl;have e1:((48:UInt8)==32)=false:=rfl;have e2:((48:UInt8)==45)=false:=rfl;have e3:((48:UInt8)==48)=true:=rfl;simp(disch:=try exact Zq)only[go_sem,cM_8_eq,hg,Ybc,Ya6,ipx,e1,e2,e3,Yah,YaA,YaC];rfl
def rep_0:PCall prog 187 [.str [48],.int .i64 0] (.ret (.str (List.replicate 0 48))):=by refine Xc (rs:=[.tmp 4]) [0,1,4,5,6,7,8,9,10,11,12,14,18,34,40,42,43,49,58,67,76,85,96,104,113] [] mixed (zh) (zf) zdT func187 rfl ntmps187 rfl ?_;simp(disch:=try exact Zq)only[go_sem];rfl
def rep_1:PCall prog 187 [.str [48],.int .i64 1] (.ret (.str (List.replicate 1 48))):=by refine Xc (rs:=[.tmp 4]) [0,1,4,5,6,7,8,9,10,11,12,14,18,34,40,42,43,49,58,67,76,85,96,104,113] [] mixed (zh) (zf) zdT func187 rfl ntmps187 rfl ?_;simp(disch:=try exact Zq)only[go_sem];rfl
def repOK:RepOK:=fun k hk=>by
 match k,hk with
 |0,_=>exact rep_0
 |1,_=>exact rep_1
 |2,_=>exact rep_2
 |3,_=>exact rep_3
 |4,_=>exact rep_4
 |5,_=>exact rep_5
 |6,_=>exact rep_6
 |7,_=>exact rep_7
 |8,_=>exact rep_8
 |k+9,h=>exact absurd h Zo
end Go.Proofs
