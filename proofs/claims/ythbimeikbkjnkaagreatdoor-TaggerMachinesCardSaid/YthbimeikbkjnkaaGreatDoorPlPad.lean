/- Blocks of nine digits as text. -/
import Derived.Test.YthbimeikbkjnkaaGreatDoorF2b
import Derived.Test.YthbimeikbkjnkaaGreatDoorQDiv
import Derived.Laws.Externs
set_option linter.all false
set_option maxHeartbeats 16000000
set_option maxRecDepth 100000
namespace Go.Pl
theorem zsK(k:Nat)(s:List UInt8):valD (List.replicate k 48++s)=valD s:=by
 rw [zb3];have:valD (List.replicate k 48)=0:=by
  induction k with
  |zero=>rfl
  |succ k ih=>rw [Ybs,zbQ,ih];have:(48:UInt8).toNat - 48=0:=rfl;rw [this,YY]
 rw [this,YY,Yal]
theorem zzI {v:Nat}(h:0<v):((dec v).getD 0 0).toNat≠48:=by
 by_cases h1:10≤v
 ·exact zrQ h1
 ·rw [zbC (by omega)];show (UInt8.ofNat (48+v)).toNat≠48;rw [zbx (by omega)];omega
theorem pad_len {d:Nat}(hd:d<1000000000):(List.replicate (9 - (dec d).length) (48:UInt8)++dec d).length=9:=by have:(dec d).length≤9:=zbM (by omega) (by omega);simp;omega
theorem zzG {v d:Nat}(hv:0<v)(hd:d<1000000000):dec (d+1000000000*v)=dec v++(List.replicate (9 - (dec d).length) 48++dec d):=by
 have h1:valD (dec v++(List.replicate (9 - (dec d).length) 48++dec d))=d+1000000000*v:=by rw [zb3,pad_len hd,zsK,zab,zab];omega
 rw [←h1];refine zg7 ?_ ?_ (.inr ?_)
 ·rw [YbL,YbL,zcq,zcq];simp only [Yar,Yaw];refine Yg.2 fun x hx=>?_;have:=Ybe hx;rw [this];rfl
 ·exact fun e=>zjQ v (List.append_eq_nil_iff.1 e).1
 ·have hp:=zdN v;rw [Ya,Y4 hp, ←Ya];exact zzI hv
def topV(l:List Nat)(i:Nat):Nat:=valL (l.drop (l.length - i))
theorem zl6(l:List Nat):topV l 0=0:=zb9 (by omega)
theorem zho {l:List Nat}{i:Nat}(h:i<l.length):topV l (i+1)=l.getD (l.length - 1 - i) 0+1000000000*topV l i:=by unfold topV;rw [zaD,show l.length - (i+1)+1=l.length - i by omega,show l.length - (i+1)=l.length - 1 - i by omega]
theorem topV_pos {n i:Nat}(hn:n≠0)(hi:0<i)(hl:i≤(limbs n).length):0<topV (limbs n) i:=by
 have h1:=zcz hn;have h2:topV (limbs n) 1≠0:=by rw [zho (by omega),zl6];simpa using h1
 obtain⟨j,rfl⟩:∃ j,i=j+1:=⟨i - 1,by omega⟩;clear hi;induction j with
 |zero=>exact Yb4 h2
 |succ j ih=>have:=ih (by omega);rw [zho (by omega)];omega
theorem topV_all(n:Nat):topV (limbs n) (limbs n).length=n:=by unfold topV;rw [Ybp,Y2,zC]
end Go.Pl

namespace Go.Proofs
open Tryz Go.Ab Go.Pl
def FmtOK:Prop:=∀ d:Nat,d<1000000000→PCall prog 209 [.int .u64 d,.int .i64 10] (.ret (.str (dec d)))
def RepOK:Prop:=∀ k:Nat,k≤8→PCall prog 211 [.str [48],.int .i64 k] (.ret (.str (List.replicate k 48)))
noncomputable def cFmt:List V→Option PR:=zu (fun d:Nat=>[.int .u64 d,.int .i64 10]) (fun d=>d<1000000000) (fun d=>.ret (.str (dec d)))
theorem cFmt_ok(h:FmtOK):∀ args r,cFmt args=some r→PCall prog 209 args r:=zn h
theorem zqs(d:Nat)(h:d<1000000000):cFmt [.int .u64 d,.int .i64 10]=some (.ret (.str (dec d))):=zo (pat:=fun d:Nat=>[V.int .u64 d,.int .i64 10]) (fun x y h=>by simp at h;omega) d h
noncomputable def cRep:List V→Option PR:=zu (fun k:Nat=>[.str [48],.int .i64 k]) (fun k=>k≤8) (fun k=>.ret (.str (List.replicate k 48)))
theorem cRep_ok(h:RepOK):∀ args r,cRep args=some r→PCall prog 211 args r:=zn h
theorem zAo(k:Nat)(h:k≤8):cRep [.str [48],.int .i64 k]=some (.ret (.str (List.replicate k 48))):=zo (pat:=fun k:Nat=>[V.str [48],.int .i64 k]) (fun x y h=>by simp at h;omega) k h
theorem topV_len {l:List Nat}(ok:okL l){i:Nat}(hi:i≤l.length):(dec (topV l i)).length≤9*i+1:=by
 refine zbM ?_ (by omega);have h1:=valL_lt (zkU ok (l.length - i));rw [Y0,show l.length - (l.length - i)=i by omega]at h1;have h3:(10:Nat) ^ (9*i+1)=1000000000 ^ i*10:=by rw [YP,Nat.pow_mul]
 rw [h3];unfold topV;generalize (1000000000:Nat) ^ i=p at*;omega
theorem text_ok(hF:FmtOK)(hR:RepOK)(n:Nat)(hn:(limbs n).length≤100000):PCall prog 180 [.fs (nats .u64 (limbs n)) (limbs n).length] (.ret (.str (dec n))):=by
 have hΓ:=zf (cFmt_ok hF) (zf (cRep_ok hR) zh);refine PCall.wD (rs:=[.tmp 2]) [0,2,3,4,5,8,10,11,12,24] [] mixed (hΓ) (zv8) call180 func180 rfl ntmps180 rfl ?_;by_cases h0:n=0
 ·subst h0;simp only [go_sem,zaL];rfl
 have hl0:0<(limbs n).length:=by
  rcases YD (limbs n).length with h|h
  ·exact absurd (limbs_nil.1 (Yr h)) h0
  ·exact h
 have ok:=zF n;have hpos:=fun i hi hl=>topV_pos (i:=i) h0 hi hl;have hall:=topV_all n;have hsz:∀ i,i≤(limbs n).length→(dec (topV (limbs n) i)).length≤1000000:=fun i hi=>by have:=topV_len ok hi;omega
 generalize limbs n=l at*;have hd0:decide ((l.length:Int)=0)=false:=by rw [YS];omega
 simp (disch:=first|exact Zq|fail) only [go_sem,hd0];refine AXs.loop mixed (hΓ) (zv8) (fun i:Nat=>[(0,.fs (nats .u64 l) l.length),(3,.ptr 0 0),(10,.int .i64 l.length),(11,.int .i64 i)]) (fun i=>match i with|0=>⟨[(0,bl0)],1⟩|i+1=>⟨[(0,bl1 0 1 (dec (topV l (i+1))).length),(1,bly (dec (topV l (i+1))))],2⟩) (fun i=>i≤l.length) (fun i=>l.length - i) 0 (by kernel_rfl) (Yk _) (Sub.of0 [] rfl rfl ?_ ?_) ?_
 ·simp only [go_sem]
 ·simp only [go_sem,bl0,zmu]
 rintro i hi;have hts:=fun h=>zho (l:=l) (i:=i) h;have hdl:=getD_lt ok (l.length - 1 - i);rcases i with _|i
 ·have hdt:topV l 1=l.getD (l.length - 1) 0:=by
   have:=hts hl0
   rwa [zl6,YY,Y5,Ybo]at this
  rw [Ybo]at hdl
  have hd1:decide (0<(l.length:Int))=true:=by rw [Yh];omega
  have hn1:dec (l.getD (l.length - 1) 0)≠[]:=zjQ _
  have hs1:=hsz 1 hl0
  rw [hdt]at hs1
  simp (disch:=first|exact Zq|fail) only [go_sem,hd1,zqs,ΔB_0,Int.sub_zero]
  refine⟨⟨by omega,by omega⟩,by omega,?_⟩
  refine zi 1 (by omega) (by omega) (Sub.of0 [] rfl rfl ?_ ?_)
  ·simp only [go_sem]
  ·rw [hdt];simp only [go_sem,bl1,bly,zmu];exact zt (zbI _)
 ·simp (disch:=first|exact Zq|fail) only [go_sem];refine AXc.introP (fun h1=>?_) (fun h1=>?_)
  ·have hlt:i+1<l.length:=by omega
   have hdt:=hts hlt;have hv:=hpos (i+1) (by omega) hi;have hs1:=hsz (i+1) hi;have hs2:=hsz (i+1+1) hlt;rw [hdt,zzG hv hdl]at hs2;have hcast:(9:Int) - ((dec (l.getD (l.length - 1 - (i+1)) 0)).length:Nat)=((9 - (dec (l.getD (l.length - 1 - (i+1)) 0)).length:Nat):Int):=by have:(dec (l.getD (l.length - 1 - (i+1)) 0)).length≤9:=zbM (by omega) (by omega);omega
   have hp0:=zdN (l.getD (l.length - 1 - (i+1)) 0);have hn1:dec (l.getD (l.length - 1 - (i+1)) 0)≠[]:=zjQ _;have hd1:decide (0<((i+1:Nat):Int))=true:=by rw [Yh];omega
   have hpl:(List.replicate (9 - (dec (l.getD (l.length - 1 - (i+1)) 0)).length) (48:UInt8)).length≤1000000:=by simp;omega
   rw [Yi,Yi]at hs2;have hdt':=Ya6 dec hdt;rw [zzG hv hdl]at hdt';by_cases hz:9 - (dec (l.getD (l.length - 1 - (i+1)) 0)).length=0
   ·have hpad:List.replicate (9 - (dec (l.getD (l.length - 1 - (i+1)) 0)).length) (48:UInt8)=[]:=by rw [hz];rfl
    rw [hpad,YbK]at hdt';simp (disch:=first|exact Zq|fail) only [go_sem,hd1,zqs,hcast,zAo,hpad,ΔB_e,ΔB_1];refine⟨⟨by omega,by omega⟩,by omega,?_⟩;refine zi (i+1+1) hlt (by omega) (Sub.of0 [(1,2)] rfl rfl ?_ ?_)
    ·simp only [go_sem];simp
    ·rw [hdt'];simp only [Yi];simp only [go_sem,bl1,bly,zmu];exact zt (zbI _)
   ·have hpn:List.replicate (9 - (dec (l.getD (l.length - 1 - (i+1)) 0)).length) (48:UInt8)≠[]:=fun e=>hz (by simpa using congrArg List.length e);have hl2:(dec (topV l (i+1))++List.replicate (9 - (dec (l.getD (l.length - 1 - (i+1)) 0)).length) (48:UInt8)).length≤1000000:=by rw [Yi];omega
    simp (disch:=first|exact Zq|fail) only [go_sem,hd1,zqs,hcast,zAo,ΔB_1,ΔB_3,Yi];refine⟨⟨by omega,by omega⟩,by omega,?_⟩;refine zi (i+1+1) hlt (by omega) (Sub.of0 [(1,3)] rfl rfl ?_ ?_)
    ·simp only [go_sem];simp
    ·rw [hdt'];simp only [Yi,Ybl,YN];simp only [go_sem,bl1,bly,zmu];exact zt (zbI _)
  ·have hie:i+1=l.length:=by omega
   rw [hie,hall];have hs:=hsz (i+1) hi;rw [hie,hall]at hs;have hp:=zdN n;simp (disch:=first|exact Zq|fail) only [go_sem];refine AXa.go mixed (hΓ) (zv8) (by kernel_rfl) ?_;simp (disch:=first|exact Zq|fail) only [go_sem,ΔB_s]
end Go.Proofs

namespace Go.Proofs
open Tryz Go.Ab
def ixB(s:List UInt8)(c:UInt8):Int:=match s.findIdx? (· ==c)with|some i=>i|none=> -1
theorem find_range {α:Type} [Inhabited α](l:List α)(p:α→Bool):(List.range l.length).find? (fun i=>p (l.getD i default))=l.findIdx? p:=by
 induction l with
 |nil=>rfl
 |cons a l ih=>
  rw [Ym,List.range_succ_eq_map,List.find?_cons,YbF];have e0:(a::l).getD 0 default=a:=rfl;rw [e0];cases h:p a with
  |true=>rfl
  |false=>simp only [YO,if_false];rw [List.find?_map, ←ih];congr 1
theorem get_bang(s:ByteArray)(i:Nat):s[i]! =s.data.toList.getD i default:=by
 by_cases h:i<s.size
 ·rw [getElem!_pos s i h];have h':i<s.data.toList.length:=h;rw [Ya,Yb h'];rfl
 ·rw [getElem!_neg s i h];have h':¬i<s.data.toList.length:=h;rw [Ya,Ys (by omega)];rfl
theorem zrB(s:List UInt8)(c:UInt8):PCall prog 251 [.str s,.int .u8 (c.toNat:Int)] (.ret (.int .i64 (ixB s c))):=by
 intro g w vs _ _ hvs hpw;obtain⟨u0,h0,r0⟩:=hpw 0 _ rfl;obtain⟨u1,h1,r1⟩:=hpw 1 _ rfl;obtain⟨b,rfl,hb⟩:=r0.inv_str;obtain rfl:=r1.inv_int;have hv:vs=#[.string b,.int .u8 (c.toNat:Int)]:=by
  apply YaE;intro i;match i with
  |0=>exact h0
  |1=>exact h1
  |i+2=>rw [YC (by simp at hvs;omega)];rfl
 subst hv;refine .inr ⟨.int .i64 (ixB s c),w,?_,fun _=>none,.int .i64 (ixB s c),fun c a e=>(by cases e),Bel.refl _ _,rfl,.int _ _⟩;rw [run_callFunc_extern (fn:=Tryz.f251) func251 (by kernel_rfl) rfl rfl (e:=Go.Extern.BytealgIndexByte.indexByte) (by kernel_rfl)];have hI:(Go.Extern.BytealgIndexByte.indexByte #[.string b,.int .u8 (c.toNat:Int)]).run prog w=(match (List.range b.size).find? (fun i=>b[i]! ==(c.toNat:Int).toNat.toUInt8)with|some i=>Result.ok (.int .i64 (i:Int)) w|none=>.ok (.int .i64 (-1)) w):=by
  show ((match (List.range b.size).find? (fun i=>b[i]! ==(c.toNat:Int).toNat.toUInt8)with|some i=>pure (goInt i)|none=>pure (goInt (-1)):Sem Value)).run prog w=_;cases (List.range b.size).find? (fun i=>b[i]! ==(c.toNat:Int).toNat.toUInt8)<;>rfl
 have e1:(fun i=>b[i]! ==c)=fun i=>(fun x=>x==c) (b.data.toList.getD i default):=by funext i;rw [get_bang]
 have e2:b.size=b.data.toList.length:=rfl;have e3:((c.toNat:Int).toNat.toUInt8)=c:=by simp
 rw [hI,e3,show List.find? (fun i=>b[i]! ==c) (List.range b.size)=s.findIdx? (fun x=>x==c)from by(rw [e1,e2, ←hb];exact find_range b.data.toList (fun x=>x==c))];unfold ixB;cases s.findIdx? (fun x=>x==c)<;>rfl
end Go.Proofs

namespace Go.Proofs
open Tryz Go.Ab Go.Pl
noncomputable def zBd:List V→Option PR:=zu (fun p:List UInt8×UInt8=>[.str p.1,.int .u8 (p.2.toNat:Int)]) (fun _=>True) (fun p=>.ret (.int .i64 (ixB p.1 p.2)))
theorem zvL:∀ args r,zBd args=some r→PCall prog 251 args r:=zn fun p _=>zrB p.1 p.2
@[go_sem] theorem cIndexB_eq(s:List UInt8)(c:UInt8):zBd [.str s,.int .u8 (c.toNat:Int)]=some (.ret (.int .i64 (ixB s c))):=zo (fun p q h=>by simp at h;obtain⟨h1,h2⟩:=h;have:p.2=q.2:=YaW.1 (by omega);exact YT h1 this) (s,c) trivial
theorem zng(s:List UInt8)(c:UInt8):PCall prog 235 [.str s,.int .u8 (c.toNat:Int)] (.ret (.int .i64 (ixB s c))):=by have hΓ:=zf zvL zh;refine PCall.wD (rs:=[.tmp 4]) [0,1,4] [] mixed (hΓ) (zg) call235 func235 rfl ntmps235 rfl ?_;simp only [go_sem]
noncomputable def zjW:List V→Option PR:=zu (fun p:List UInt8×UInt8=>[.str p.1,.int .u8 (p.2.toNat:Int)]) (fun _=>True) (fun p=>.ret (.int .i64 (ixB p.1 p.2)))
theorem zlH:∀ args r,zjW args=some r→PCall prog 235 args r:=zn fun p _=>zng p.1 p.2
@[go_sem] theorem cIndexByte_eq(s:List UInt8)(c:UInt8):zjW [.str s,.int .u8 (c.toNat:Int)]=some (.ret (.int .i64 (ixB s c))):=zo (fun p q h=>by simp at h;obtain⟨h1,h2⟩:=h;have:p.2=q.2:=YaW.1 (by omega);exact YT h1 this) (s,c) trivial
theorem zy8(s:List UInt8)(c:UInt8):PCall prog 214 [.str s,.str [c]] (.ret (.int .i64 (ixB s c))):=by
 have hΓ:=zf zlH zh;refine PCall.wD (rs:=[.tmp 4]) [0,1,4,5,6,7,8,9,10,11,12,13,16,24,31,36,59,64,73,93,107,114,132,139] [] mixed (hΓ) (zg) call214 func214 rfl ntmps214 rfl ?_;simp only [go_sem];refine AXc.introP (fun h1=>?_) (fun h1=>?_)
 ·have h2:ixB s c=0:=by rw [←h1];simp [ixB,YbF]
  simp only [go_sem,h2]
 ·simp only [go_sem];rfl
noncomputable def zBe:List V→Option PR:=zu (fun p:List UInt8×UInt8=>[.str p.1,.str [p.2]]) (fun _=>True) (fun p=>.ret (.int .i64 (ixB p.1 p.2)))
theorem zvM:∀ args r,zBe args=some r→PCall prog 214 args r:=zn fun p _=>zy8 p.1 p.2
@[go_sem] theorem cIndex1_eq(s:List UInt8)(c:UInt8):zBe [.str s,.str [c]]=some (.ret (.int .i64 (ixB s c))):=zo (fun p q h=>by simp at h;exact YT h.1 h.2) (s,c) trivial
def cutV(s:List UInt8)(c:UInt8):V:=match s.findIdx? (· ==c)with
 |some i=>.tup [.str (s.take i),.str (s.drop (i+1)),.bool true]
 |none=>.tup [.str s,.str [],.bool false]
theorem zuV {s:List UInt8}{c:UInt8}{i:Nat}(h:s.findIdx? (· ==c)=some i):i<s.length:=by rw [YaX]at h;exact h.1
theorem cutL_ok(s:List UInt8)(c:UInt8)(hs:s.length≤1000000000):PCall prog 183 [.str s,.str [c]] (.ret (cutV s c)):=by
 have hΓ:=zf zvM zh;refine PCall.wD (rs:=[.tmp 4,.tmp 5,.tmp 6]) [0,1,4,5,6,7,12] [] mixed (hΓ) (zg) call183 func183 rfl ntmps183 rfl ?_;simp only [go_sem];have hx:ixB s c=match s.findIdx? (· ==c)with|some i=>(i:Int)|none=> -1:=rfl
 unfold cutV;cases h:s.findIdx? (· ==c)with
 |none=>rw [h]at hx;simp only at hx;rw [hx];simp only [go_sem]
 |some i=>
  rw [h]at hx;simp only at hx;rw [hx];have hi:=zuV h;simp only [go_sem];refine AXc.introP (fun h1=>?_) (fun h1=>?_);rotate_left;·omega
  simp (disch:=first|exact Zq|fail) only [go_sem];refine⟨⟨by omega,by omega⟩,⟨by omega,by omega,by omega⟩,?_⟩;rw [YQ]
theorem cutV_tup(s:List UInt8)(c:UInt8):∃ a b d,cutV s c=.tup [.str a,.str b,.bool d]:=by unfold cutV;split<;>exact⟨_,_,_,rfl⟩
noncomputable def cCutL:List V→Option PR:=zu (fun p:List UInt8×UInt8=>[.str p.1,.str [p.2]]) (fun p=>p.1.length≤1000000000) (fun p=>.ret (cutV p.1 p.2))
theorem cCutL_ok:∀ args r,cCutL args=some r→PCall prog 183 args r:=zn fun p h=>cutL_ok p.1 p.2 h
@[go_sem] theorem cCutL_eq(s:List UInt8)(c:UInt8)(h:s.length≤1000000000):cCutL [.str s,.str [c]]=some (.ret (cutV s c)):=zo (fun p q h=>by simp at h;exact YT h.1 h.2) (s,c) h
theorem cut_ok(s:List UInt8)(c:UInt8)(hs:s.length≤1000000000):PCall prog 155 [.str s,.str [c]] (.ret (cutV s c)):=by
 have hΓ:=zf cCutL_ok zh;refine PCall.wD (rs:=[.tmp 4,.tmp 5,.tmp 6]) [0,1,4,5,6] [] mixed (hΓ) (zg) call155 func155 rfl ntmps155 rfl ?_;obtain⟨a,b,d,h⟩:=cutV_tup s c;simp (disch:=first|exact Zq|fail) only [go_sem,h]
noncomputable def cCut:List V→Option PR:=zu (fun p:List UInt8×UInt8=>[.str p.1,.str [p.2]]) (fun p=>p.1.length≤1000000000) (fun p=>.ret (cutV p.1 p.2))
theorem cCut_ok:∀ args r,cCut args=some r→PCall prog 155 args r:=zn fun p h=>cut_ok p.1 p.2 h
@[go_sem] theorem cCut_eq(s:List UInt8)(c:UInt8)(h:s.length≤1000000000):cCut [.str s,.str [c]]=some (.ret (cutV s c)):=zo (fun p q h=>by simp at h;exact YT h.1 h.2) (s,c) h
theorem zlw(s p:List UInt8):PCall prog 213 [.str s,.str p] (.ret (.bool (p.isPrefixOf s))):=by
 refine PCall.wD (rs:=[.tmp 4]) [0,1,4] [] mixed (zh) (zg) call213 func213 rfl ntmps213 rfl ?_;simp only [go_sem];refine⟨fun h=>⟨h,by omega,by simpa using h⟩,?_⟩;rw [YaJ];simp only [Yc,Yh,List.isPrefixOf_iff_prefix];constructor
 ·rintro⟨h1,h2⟩;rw [←h2];exact List.take_prefix _ _
 ·rintro⟨t,rfl⟩;exact⟨by simp;omega,by simp⟩
noncomputable def ziv:List V→Option PR:=zu (fun p:List UInt8×List UInt8=>[.str p.1,.str p.2]) (fun _=>True) (fun p=>.ret (.bool (p.2.isPrefixOf p.1)))
theorem zeP:∀ args r,ziv args=some r→PCall prog 213 args r:=zn fun p _=>zlw p.1 p.2
@[go_sem] theorem cHasPrefixL_eq(s p:List UInt8):ziv [.str s,.str p]=some (.ret (.bool (p.isPrefixOf s))):=zo (fun p q h=>by simp at h;exact YT h.1 h.2) (s,p) trivial
theorem znj(s p:List UInt8):PCall prog 232 [.str s,.str p] (.ret (.bool (p.isPrefixOf s))):=by have hΓ:=zf zeP zh;refine PCall.wD (rs:=[.tmp 4]) [0,1,4] [] mixed (hΓ) (zg) call232 func232 rfl ntmps232 rfl ?_;simp only [go_sem]
noncomputable def zjX:List V→Option PR:=zu (fun p:List UInt8×List UInt8=>[.str p.1,.str p.2]) (fun _=>True) (fun p=>.ret (.bool (p.2.isPrefixOf p.1)))
theorem za8:∀ args r,zjX args=some r→PCall prog 232 args r:=zn fun p _=>znj p.1 p.2
@[go_sem] theorem cHasPrefix_eq(s p:List UInt8):zjX [.str s,.str p]=some (.ret (.bool (p.isPrefixOf s))):=zo (fun p q h=>by simp at h;exact YT h.1 h.2) (s,p) trivial
def zbt(s p:List UInt8):V:=if p.isPrefixOf s=true then .tup [.str (s.drop p.length),.bool true]else .tup [.str s,.bool false]
theorem zp2(s p:List UInt8):PCall prog 182 [.str s,.str p] (.ret (zbt s p)):=by
 have hΓ:=zf zeP zh;refine PCall.wD (rs:=[.tmp 4,.tmp 5]) [0,1,4,5,9] [] mixed (hΓ) (zg) call182 func182 rfl ntmps182 rfl ?_;unfold zbt;cases h:p.isPrefixOf s with
 |false=>simp only [go_sem,h]
 |true=>
  have hl:p.length≤s.length:=by rw [List.isPrefixOf_iff_prefix]at h;obtain⟨t,rfl⟩:=h;simp
  simp (disch:=first|exact Zq|fail) only [go_sem,h,YQ];omega
theorem znF(s p:List UInt8):∃ a d,zbt s p=.tup [.str a,.bool d]:=by unfold zbt;split<;>exact⟨_,_,rfl⟩
noncomputable def zn6:List V→Option PR:=zu (fun p:List UInt8×List UInt8=>[.str p.1,.str p.2]) (fun _=>True) (fun p=>.ret (zbt p.1 p.2))
theorem zn5:∀ args r,zn6 args=some r→PCall prog 182 args r:=zn fun p _=>zp2 p.1 p.2
@[go_sem] theorem cCutPrefL_eq(s p:List UInt8):zn6 [.str s,.str p]=some (.ret (zbt s p)):=zo (fun p q h=>by simp at h;exact YT h.1 h.2) (s,p) trivial
theorem zu7(s p:List UInt8):PCall prog 154 [.str s,.str p] (.ret (zbt s p)):=by
 have hΓ:=zf zn5 zh;refine PCall.wD (rs:=[.tmp 4,.tmp 5]) [0,1,4,5] [] mixed (hΓ) (zg) call154 func154 rfl ntmps154 rfl ?_;obtain⟨a,d,h⟩:=znF s p;simp (disch:=first|exact Zq|fail) only [go_sem,h]
noncomputable def zsi:List V→Option PR:=zu (fun p:List UInt8×List UInt8=>[.str p.1,.str p.2]) (fun _=>True) (fun p=>.ret (zbt p.1 p.2))
theorem zqu:∀ args r,zsi args=some r→PCall prog 154 args r:=zn fun p _=>zu7 p.1 p.2
@[go_sem] theorem cCutPref_eq(s p:List UInt8):zsi [.str s,.str p]=some (.ret (zbt s p)):=zo (fun p q h=>by simp at h;exact YT h.1 h.2) (s,p) trivial
theorem ze7:zk prog 249:=fun a w=>by kernel_rfl
theorem ze8:zk prog 231:=fun a w=>by kernel_rfl
theorem ipx(a c:UInt8)(l r:List UInt8):List.isPrefixOf [a] (List.append (c::l) r)=(a==c):=by show (a==c&&true)=_;rw [Yaw]
theorem and1:Go.bits .and .u64 1 4294967295=1:=by kernel_rfl
theorem and0:Go.bits .and .u64 0 4294967295=0:=by kernel_rfl
theorem and_2:Go.bits .and .u64 2 4294967295=2:=by kernel_rfl
theorem mul64_2:PCall prog 249 [.int .u64 1,.int .u64 2] (.ret (.tup [.int .u64 0,.int .u64 2])):=by
 refine PCall.wD (rs:=[.tmp 4,.tmp 5]) [0,1,4,5,6,7,8,9,10,11,12,13] [] mixed (zh) (zg) ze7 func249 rfl ntmps249 rfl ?_;simp (disch:=first|exact Zq|fail) only [go_sem,and1,and0,and_2];kernel_rfl
noncomputable def cM64_2:List V→Option PR:=zu (fun _:Unit=>[.int .u64 1,.int .u64 2]) (fun _=>True) (fun _=>.ret (.tup [.int .u64 0,.int .u64 2]))
theorem zA9:∀ args r,cM64_2 args=some r→PCall prog 249 args r:=zn fun _ _=>mul64_2
theorem zBa:cM64_2 [.int .u64 1,.int .u64 2]=some (.ret (.tup [.int .u64 0,.int .u64 2])):=zo (pat:=fun _:Unit=>[V.int .u64 1,.int .u64 2]) (fun _ _ _=>rfl) () trivial
theorem mul_2:PCall prog 231 [.int .u64 1,.int .u64 2] (.ret (.tup [.int .u64 0,.int .u64 2])):=by
 refine PCall.wD (rs:=[.tmp 4,.tmp 5]) [0,1,4,5,6,7,8,9] [] mixed (zf zA9 zh) (zg) ze8 func231 rfl ntmps231 rfl ?_;simp (disch:=first|exact Zq|fail) only [go_sem,zBa]
noncomputable def cM_2:List V→Option PR:=zu (fun _:Unit=>[.int .u64 1,.int .u64 2]) (fun _=>True) (fun _=>.ret (.tup [.int .u64 0,.int .u64 2]))
theorem cM_2_ok:∀ args r,cM_2 args=some r→PCall prog 231 args r:=zn fun _ _=>mul_2
theorem cM_2_eq:cM_2 [.int .u64 1,.int .u64 2]=some (.ret (.tup [.int .u64 0,.int .u64 2])):=zo (pat:=fun _:Unit=>[V.int .u64 1,.int .u64 2]) (fun _ _ _=>rfl) () trivial
theorem rep_2:PCall prog 211 [.str [48],.int .i64 2] (.ret (.str (List.replicate 2 48))):=by
 refine PCall.wD (rs:=[.tmp 4]) [0,1,4,5,6,7,8,9,10,11,12,14,18,34,40,42,43,49,58,67,76,85,96,104,113] [] mixed (zf cM_2_ok (zf za8 zh)) (zg) zdP func211 rfl ntmps211 rfl ?_;have hg:((([48]:List UInt8).getD 0 0).toNat:Int)=48:=rfl;have e1:((48:UInt8)==32)=false:=rfl;have e2:((48:UInt8)==45)=false:=rfl;have e3:((48:UInt8)==48)=true:=rfl;simp (disch:=first|exact Zq|fail) only [go_sem,cM_2_eq,hg,Ybb,YaY,ipx,e1,e2,e3,Y7,Yar,Yaw];rfl
theorem and_3:Go.bits .and .u64 3 4294967295=3:=by kernel_rfl
theorem mul64_3:PCall prog 249 [.int .u64 1,.int .u64 3] (.ret (.tup [.int .u64 0,.int .u64 3])):=by
 refine PCall.wD (rs:=[.tmp 4,.tmp 5]) [0,1,4,5,6,7,8,9,10,11,12,13] [] mixed (zh) (zg) ze7 func249 rfl ntmps249 rfl ?_;simp (disch:=first|exact Zq|fail) only [go_sem,and1,and0,and_3];kernel_rfl
noncomputable def cM64_3:List V→Option PR:=zu (fun _:Unit=>[.int .u64 1,.int .u64 3]) (fun _=>True) (fun _=>.ret (.tup [.int .u64 0,.int .u64 3]))
theorem zA7:∀ args r,cM64_3 args=some r→PCall prog 249 args r:=zn fun _ _=>mul64_3
theorem zA8:cM64_3 [.int .u64 1,.int .u64 3]=some (.ret (.tup [.int .u64 0,.int .u64 3])):=zo (pat:=fun _:Unit=>[V.int .u64 1,.int .u64 3]) (fun _ _ _=>rfl) () trivial
theorem mul_3:PCall prog 231 [.int .u64 1,.int .u64 3] (.ret (.tup [.int .u64 0,.int .u64 3])):=by
 refine PCall.wD (rs:=[.tmp 4,.tmp 5]) [0,1,4,5,6,7,8,9] [] mixed (zf zA7 zh) (zg) ze8 func231 rfl ntmps231 rfl ?_;simp (disch:=first|exact Zq|fail) only [go_sem,zA8]
noncomputable def cM_3:List V→Option PR:=zu (fun _:Unit=>[.int .u64 1,.int .u64 3]) (fun _=>True) (fun _=>.ret (.tup [.int .u64 0,.int .u64 3]))
theorem cM_3_ok:∀ args r,cM_3 args=some r→PCall prog 231 args r:=zn fun _ _=>mul_3
theorem cM_3_eq:cM_3 [.int .u64 1,.int .u64 3]=some (.ret (.tup [.int .u64 0,.int .u64 3])):=zo (pat:=fun _:Unit=>[V.int .u64 1,.int .u64 3]) (fun _ _ _=>rfl) () trivial
theorem rep_3:PCall prog 211 [.str [48],.int .i64 3] (.ret (.str (List.replicate 3 48))):=by
 refine PCall.wD (rs:=[.tmp 4]) [0,1,4,5,6,7,8,9,10,11,12,14,18,34,40,42,43,49,58,67,76,85,96,104,113] [] mixed (zf cM_3_ok (zf za8 zh)) (zg) zdP func211 rfl ntmps211 rfl ?_;have hg:((([48]:List UInt8).getD 0 0).toNat:Int)=48:=rfl;have e1:((48:UInt8)==32)=false:=rfl;have e2:((48:UInt8)==45)=false:=rfl;have e3:((48:UInt8)==48)=true:=rfl;simp (disch:=first|exact Zq|fail) only [go_sem,cM_3_eq,hg,Ybb,YaY,ipx,e1,e2,e3,Y7,Yar,Yaw];rfl
theorem and_4:Go.bits .and .u64 4 4294967295=4:=by kernel_rfl
theorem mul64_4:PCall prog 249 [.int .u64 1,.int .u64 4] (.ret (.tup [.int .u64 0,.int .u64 4])):=by
 refine PCall.wD (rs:=[.tmp 4,.tmp 5]) [0,1,4,5,6,7,8,9,10,11,12,13] [] mixed (zh) (zg) ze7 func249 rfl ntmps249 rfl ?_;simp (disch:=first|exact Zq|fail) only [go_sem,and1,and0,and_4];kernel_rfl
noncomputable def cM64_4:List V→Option PR:=zu (fun _:Unit=>[.int .u64 1,.int .u64 4]) (fun _=>True) (fun _=>.ret (.tup [.int .u64 0,.int .u64 4]))
theorem zA5:∀ args r,cM64_4 args=some r→PCall prog 249 args r:=zn fun _ _=>mul64_4
theorem zA6:cM64_4 [.int .u64 1,.int .u64 4]=some (.ret (.tup [.int .u64 0,.int .u64 4])):=zo (pat:=fun _:Unit=>[V.int .u64 1,.int .u64 4]) (fun _ _ _=>rfl) () trivial
theorem mul_4:PCall prog 231 [.int .u64 1,.int .u64 4] (.ret (.tup [.int .u64 0,.int .u64 4])):=by
 refine PCall.wD (rs:=[.tmp 4,.tmp 5]) [0,1,4,5,6,7,8,9] [] mixed (zf zA5 zh) (zg) ze8 func231 rfl ntmps231 rfl ?_;simp (disch:=first|exact Zq|fail) only [go_sem,zA6]
noncomputable def cM_4:List V→Option PR:=zu (fun _:Unit=>[.int .u64 1,.int .u64 4]) (fun _=>True) (fun _=>.ret (.tup [.int .u64 0,.int .u64 4]))
theorem cM_4_ok:∀ args r,cM_4 args=some r→PCall prog 231 args r:=zn fun _ _=>mul_4
theorem cM_4_eq:cM_4 [.int .u64 1,.int .u64 4]=some (.ret (.tup [.int .u64 0,.int .u64 4])):=zo (pat:=fun _:Unit=>[V.int .u64 1,.int .u64 4]) (fun _ _ _=>rfl) () trivial
theorem rep_4:PCall prog 211 [.str [48],.int .i64 4] (.ret (.str (List.replicate 4 48))):=by
 refine PCall.wD (rs:=[.tmp 4]) [0,1,4,5,6,7,8,9,10,11,12,14,18,34,40,42,43,49,58,67,76,85,96,104,113] [] mixed (zf cM_4_ok (zf za8 zh)) (zg) zdP func211 rfl ntmps211 rfl ?_;have hg:((([48]:List UInt8).getD 0 0).toNat:Int)=48:=rfl;have e1:((48:UInt8)==32)=false:=rfl;have e2:((48:UInt8)==45)=false:=rfl;have e3:((48:UInt8)==48)=true:=rfl;simp (disch:=first|exact Zq|fail) only [go_sem,cM_4_eq,hg,Ybb,YaY,ipx,e1,e2,e3,Y7,Yar,Yaw];rfl
theorem and_5:Go.bits .and .u64 5 4294967295=5:=by kernel_rfl
theorem mul64_5:PCall prog 249 [.int .u64 1,.int .u64 5] (.ret (.tup [.int .u64 0,.int .u64 5])):=by
 refine PCall.wD (rs:=[.tmp 4,.tmp 5]) [0,1,4,5,6,7,8,9,10,11,12,13] [] mixed (zh) (zg) ze7 func249 rfl ntmps249 rfl ?_;simp (disch:=first|exact Zq|fail) only [go_sem,and1,and0,and_5];kernel_rfl
noncomputable def cM64_5:List V→Option PR:=zu (fun _:Unit=>[.int .u64 1,.int .u64 5]) (fun _=>True) (fun _=>.ret (.tup [.int .u64 0,.int .u64 5]))
theorem zA3:∀ args r,cM64_5 args=some r→PCall prog 249 args r:=zn fun _ _=>mul64_5
theorem zA4:cM64_5 [.int .u64 1,.int .u64 5]=some (.ret (.tup [.int .u64 0,.int .u64 5])):=zo (pat:=fun _:Unit=>[V.int .u64 1,.int .u64 5]) (fun _ _ _=>rfl) () trivial
theorem mul_5:PCall prog 231 [.int .u64 1,.int .u64 5] (.ret (.tup [.int .u64 0,.int .u64 5])):=by
 refine PCall.wD (rs:=[.tmp 4,.tmp 5]) [0,1,4,5,6,7,8,9] [] mixed (zf zA3 zh) (zg) ze8 func231 rfl ntmps231 rfl ?_;simp (disch:=first|exact Zq|fail) only [go_sem,zA4]
noncomputable def cM_5:List V→Option PR:=zu (fun _:Unit=>[.int .u64 1,.int .u64 5]) (fun _=>True) (fun _=>.ret (.tup [.int .u64 0,.int .u64 5]))
theorem cM_5_ok:∀ args r,cM_5 args=some r→PCall prog 231 args r:=zn fun _ _=>mul_5
theorem cM_5_eq:cM_5 [.int .u64 1,.int .u64 5]=some (.ret (.tup [.int .u64 0,.int .u64 5])):=zo (pat:=fun _:Unit=>[V.int .u64 1,.int .u64 5]) (fun _ _ _=>rfl) () trivial
theorem rep_5:PCall prog 211 [.str [48],.int .i64 5] (.ret (.str (List.replicate 5 48))):=by
 refine PCall.wD (rs:=[.tmp 4]) [0,1,4,5,6,7,8,9,10,11,12,14,18,34,40,42,43,49,58,67,76,85,96,104,113] [] mixed (zf cM_5_ok (zf za8 zh)) (zg) zdP func211 rfl ntmps211 rfl ?_;have hg:((([48]:List UInt8).getD 0 0).toNat:Int)=48:=rfl;have e1:((48:UInt8)==32)=false:=rfl;have e2:((48:UInt8)==45)=false:=rfl;have e3:((48:UInt8)==48)=true:=rfl;simp (disch:=first|exact Zq|fail) only [go_sem,cM_5_eq,hg,Ybb,YaY,ipx,e1,e2,e3,Y7,Yar,Yaw];rfl
theorem and_6:Go.bits .and .u64 6 4294967295=6:=by kernel_rfl
theorem mul64_6:PCall prog 249 [.int .u64 1,.int .u64 6] (.ret (.tup [.int .u64 0,.int .u64 6])):=by
 refine PCall.wD (rs:=[.tmp 4,.tmp 5]) [0,1,4,5,6,7,8,9,10,11,12,13] [] mixed (zh) (zg) ze7 func249 rfl ntmps249 rfl ?_;simp (disch:=first|exact Zq|fail) only [go_sem,and1,and0,and_6];kernel_rfl
noncomputable def cM64_6:List V→Option PR:=zu (fun _:Unit=>[.int .u64 1,.int .u64 6]) (fun _=>True) (fun _=>.ret (.tup [.int .u64 0,.int .u64 6]))
theorem zA1:∀ args r,cM64_6 args=some r→PCall prog 249 args r:=zn fun _ _=>mul64_6
theorem zA2:cM64_6 [.int .u64 1,.int .u64 6]=some (.ret (.tup [.int .u64 0,.int .u64 6])):=zo (pat:=fun _:Unit=>[V.int .u64 1,.int .u64 6]) (fun _ _ _=>rfl) () trivial
theorem mul_6:PCall prog 231 [.int .u64 1,.int .u64 6] (.ret (.tup [.int .u64 0,.int .u64 6])):=by
 refine PCall.wD (rs:=[.tmp 4,.tmp 5]) [0,1,4,5,6,7,8,9] [] mixed (zf zA1 zh) (zg) ze8 func231 rfl ntmps231 rfl ?_;simp (disch:=first|exact Zq|fail) only [go_sem,zA2]
noncomputable def cM_6:List V→Option PR:=zu (fun _:Unit=>[.int .u64 1,.int .u64 6]) (fun _=>True) (fun _=>.ret (.tup [.int .u64 0,.int .u64 6]))
theorem cM_6_ok:∀ args r,cM_6 args=some r→PCall prog 231 args r:=zn fun _ _=>mul_6
theorem cM_6_eq:cM_6 [.int .u64 1,.int .u64 6]=some (.ret (.tup [.int .u64 0,.int .u64 6])):=zo (pat:=fun _:Unit=>[V.int .u64 1,.int .u64 6]) (fun _ _ _=>rfl) () trivial
theorem rep_6:PCall prog 211 [.str [48],.int .i64 6] (.ret (.str (List.replicate 6 48))):=by
 refine PCall.wD (rs:=[.tmp 4]) [0,1,4,5,6,7,8,9,10,11,12,14,18,34,40,42,43,49,58,67,76,85,96,104,113] [] mixed (zf cM_6_ok (zf za8 zh)) (zg) zdP func211 rfl ntmps211 rfl ?_;have hg:((([48]:List UInt8).getD 0 0).toNat:Int)=48:=rfl;have e1:((48:UInt8)==32)=false:=rfl;have e2:((48:UInt8)==45)=false:=rfl;have e3:((48:UInt8)==48)=true:=rfl;simp (disch:=first|exact Zq|fail) only [go_sem,cM_6_eq,hg,Ybb,YaY,ipx,e1,e2,e3,Y7,Yar,Yaw];rfl
theorem and_7:Go.bits .and .u64 7 4294967295=7:=by kernel_rfl
theorem mul64_7:PCall prog 249 [.int .u64 1,.int .u64 7] (.ret (.tup [.int .u64 0,.int .u64 7])):=by
 refine PCall.wD (rs:=[.tmp 4,.tmp 5]) [0,1,4,5,6,7,8,9,10,11,12,13] [] mixed (zh) (zg) ze7 func249 rfl ntmps249 rfl ?_;simp (disch:=first|exact Zq|fail) only [go_sem,and1,and0,and_7];kernel_rfl
noncomputable def cM64_7:List V→Option PR:=zu (fun _:Unit=>[.int .u64 1,.int .u64 7]) (fun _=>True) (fun _=>.ret (.tup [.int .u64 0,.int .u64 7]))
theorem zAZ:∀ args r,cM64_7 args=some r→PCall prog 249 args r:=zn fun _ _=>mul64_7
theorem zA0:cM64_7 [.int .u64 1,.int .u64 7]=some (.ret (.tup [.int .u64 0,.int .u64 7])):=zo (pat:=fun _:Unit=>[V.int .u64 1,.int .u64 7]) (fun _ _ _=>rfl) () trivial
theorem mul_7:PCall prog 231 [.int .u64 1,.int .u64 7] (.ret (.tup [.int .u64 0,.int .u64 7])):=by
 refine PCall.wD (rs:=[.tmp 4,.tmp 5]) [0,1,4,5,6,7,8,9] [] mixed (zf zAZ zh) (zg) ze8 func231 rfl ntmps231 rfl ?_;simp (disch:=first|exact Zq|fail) only [go_sem,zA0]
noncomputable def cM_7:List V→Option PR:=zu (fun _:Unit=>[.int .u64 1,.int .u64 7]) (fun _=>True) (fun _=>.ret (.tup [.int .u64 0,.int .u64 7]))
theorem cM_7_ok:∀ args r,cM_7 args=some r→PCall prog 231 args r:=zn fun _ _=>mul_7
theorem cM_7_eq:cM_7 [.int .u64 1,.int .u64 7]=some (.ret (.tup [.int .u64 0,.int .u64 7])):=zo (pat:=fun _:Unit=>[V.int .u64 1,.int .u64 7]) (fun _ _ _=>rfl) () trivial
theorem rep_7:PCall prog 211 [.str [48],.int .i64 7] (.ret (.str (List.replicate 7 48))):=by
 refine PCall.wD (rs:=[.tmp 4]) [0,1,4,5,6,7,8,9,10,11,12,14,18,34,40,42,43,49,58,67,76,85,96,104,113] [] mixed (zf cM_7_ok (zf za8 zh)) (zg) zdP func211 rfl ntmps211 rfl ?_;have hg:((([48]:List UInt8).getD 0 0).toNat:Int)=48:=rfl;have e1:((48:UInt8)==32)=false:=rfl;have e2:((48:UInt8)==45)=false:=rfl;have e3:((48:UInt8)==48)=true:=rfl;simp (disch:=first|exact Zq|fail) only [go_sem,cM_7_eq,hg,Ybb,YaY,ipx,e1,e2,e3,Y7,Yar,Yaw];rfl
theorem and_8:Go.bits .and .u64 8 4294967295=8:=by kernel_rfl
theorem mul64_8:PCall prog 249 [.int .u64 1,.int .u64 8] (.ret (.tup [.int .u64 0,.int .u64 8])):=by
 refine PCall.wD (rs:=[.tmp 4,.tmp 5]) [0,1,4,5,6,7,8,9,10,11,12,13] [] mixed (zh) (zg) ze7 func249 rfl ntmps249 rfl ?_;simp (disch:=first|exact Zq|fail) only [go_sem,and1,and0,and_8];kernel_rfl
noncomputable def cM64_8:List V→Option PR:=zu (fun _:Unit=>[.int .u64 1,.int .u64 8]) (fun _=>True) (fun _=>.ret (.tup [.int .u64 0,.int .u64 8]))
theorem zAX:∀ args r,cM64_8 args=some r→PCall prog 249 args r:=zn fun _ _=>mul64_8
theorem zAY:cM64_8 [.int .u64 1,.int .u64 8]=some (.ret (.tup [.int .u64 0,.int .u64 8])):=zo (pat:=fun _:Unit=>[V.int .u64 1,.int .u64 8]) (fun _ _ _=>rfl) () trivial
theorem mul_8:PCall prog 231 [.int .u64 1,.int .u64 8] (.ret (.tup [.int .u64 0,.int .u64 8])):=by
 refine PCall.wD (rs:=[.tmp 4,.tmp 5]) [0,1,4,5,6,7,8,9] [] mixed (zf zAX zh) (zg) ze8 func231 rfl ntmps231 rfl ?_;simp (disch:=first|exact Zq|fail) only [go_sem,zAY]
noncomputable def cM_8:List V→Option PR:=zu (fun _:Unit=>[.int .u64 1,.int .u64 8]) (fun _=>True) (fun _=>.ret (.tup [.int .u64 0,.int .u64 8]))
theorem cM_8_ok:∀ args r,cM_8 args=some r→PCall prog 231 args r:=zn fun _ _=>mul_8
theorem cM_8_eq:cM_8 [.int .u64 1,.int .u64 8]=some (.ret (.tup [.int .u64 0,.int .u64 8])):=zo (pat:=fun _:Unit=>[V.int .u64 1,.int .u64 8]) (fun _ _ _=>rfl) () trivial
theorem rep_8:PCall prog 211 [.str [48],.int .i64 8] (.ret (.str (List.replicate 8 48))):=by
 refine PCall.wD (rs:=[.tmp 4]) [0,1,4,5,6,7,8,9,10,11,12,14,18,34,40,42,43,49,58,67,76,85,96,104,113] [] mixed (zf cM_8_ok (zf za8 zh)) (zg) zdP func211 rfl ntmps211 rfl ?_;have hg:((([48]:List UInt8).getD 0 0).toNat:Int)=48:=rfl;have e1:((48:UInt8)==32)=false:=rfl;have e2:((48:UInt8)==45)=false:=rfl;have e3:((48:UInt8)==48)=true:=rfl;simp (disch:=first|exact Zq|fail) only [go_sem,cM_8_eq,hg,Ybb,YaY,ipx,e1,e2,e3,Y7,Yar,Yaw];rfl
theorem rep_0:PCall prog 211 [.str [48],.int .i64 0] (.ret (.str (List.replicate 0 48))):=by
 refine PCall.wD (rs:=[.tmp 4]) [0,1,4,5,6,7,8,9,10,11,12,14,18,34,40,42,43,49,58,67,76,85,96,104,113] [] mixed (zh) (zg) zdP func211 rfl ntmps211 rfl ?_;simp (disch:=first|exact Zq|fail) only [go_sem];rfl
theorem rep_1:PCall prog 211 [.str [48],.int .i64 1] (.ret (.str (List.replicate 1 48))):=by
 refine PCall.wD (rs:=[.tmp 4]) [0,1,4,5,6,7,8,9,10,11,12,14,18,34,40,42,43,49,58,67,76,85,96,104,113] [] mixed (zh) (zg) zdP func211 rfl ntmps211 rfl ?_;simp (disch:=first|exact Zq|fail) only [go_sem];rfl
theorem repOK:RepOK:=fun k hk=>by
 match k,hk with
 |0,_=>exact rep_0
 |1,_=>exact rep_1
 |2,_=>exact rep_2
 |3,_=>exact rep_3
 |4,_=>exact rep_4
 |5,_=>exact rep_5
 |6,_=>exact rep_6
 |7,_=>exact rep_7
 |8,_=>exact rep_8
 |k+9,h=>exact absurd h (by omega)
end Go.Proofs
