/- Blocks of nine digits as text. -/
import Derived.Test.YthbimeikbkjnkaaGreatDoorQNat5
import Derived.Test.YthbimeikbkjnkaaGreatDoorAbEvP
import Derived.Test.YthbimeikbkjnkaaGreatDoorQBld
import Derived.Test.YthbimeikbkjnkaaGreatDoorS0Types
import Derived.Laws.Externs
import Derived.Test.YthbimeikbkjnkaaGreatDoorPlTen
set_option linter.all false
namespace Go.Pl
theorem zpr(k:Nat)(s:List UInt8):valD (List.replicate k 48++s)=valD s:=by
 rw [zcM];have:valD (List.replicate k 48)=0:=by
  induction k with
  |zero=>rfl
  |succ k ih=>rw [List.replicate_succ,zcv,ih];have:(48:UInt8).toNat - 48=0:=rfl;rw [this,Nat.mul_zero]
 rw [this,Nat.mul_zero,Nat.zero_add]
theorem zvk {v:Nat}(h:0<v):((dec v).getD 0 0).toNat≠48:=by
 by_cases h1:10≤v
 ·exact zoN h1
 ·rw [zbx (by omega)];show (UInt8.ofNat (48+v)).toNat≠48;rw [zcx (by omega)];omega
theorem pad_len {d:Nat}(hd:d<1000000000):(List.replicate (9 - (dec d).length) (48:UInt8)++dec d).length=9:=by have:(dec d).length≤9:=zbY (by omega) (by omega);simp;omega
theorem zvj {v d:Nat}(hv:0<v)(hd:d<1000000000):dec (d+1000000000*v)=dec v++(List.replicate (9 - (dec d).length) 48++dec d):=by
 have h1:valD (dec v++(List.replicate (9 - (dec d).length) 48++dec d))=d+1000000000*v:=by rw [zcM,pad_len hd,zpr,zaw,zaw];omega
 rw [←h1];refine zoM ?_ ?_ (.inr ?_)
 ·rw [List.all_append,List.all_append,ze2,ze2];simp only [Bool.true_and,Bool.and_true];refine List.all_eq_true.2 fun x hx=>?_;have:=List.eq_of_mem_replicate hx;rw [this];rfl
 ·exact fun e=>zln v (List.append_eq_nil_iff.1 e).1
 ·have hp:=zc3 v;rw [List.getD_eq_getElem?_getD,List.getElem?_append_left hp, ←List.getD_eq_getElem?_getD];exact zvk hv
def topV(l:List Nat)(i:Nat):Nat:=valL (l.drop (l.length - i))
theorem zj5(l:List Nat):topV l 0=0:=zbE (by omega)
theorem zfN {l:List Nat}{i:Nat}(h:i<l.length):topV l (i+1)=l.getD (l.length - 1 - i) 0+1000000000*topV l i:=by unfold topV;rw [zaq,show l.length - (i+1)+1=l.length - i by omega,show l.length - (i+1)=l.length - 1 - i by omega]
theorem topV_pos {n i:Nat}(hn:n≠0)(hi:0<i)(hl:i≤(limbs n).length):0<topV (limbs n) i:=by
 have h1:=zbX hn;have h2:topV (limbs n) 1≠0:=by rw [zfN (by omega),zj5];simpa using h1
 obtain⟨j,rfl⟩:∃ j,i=j+1:=⟨i - 1,by omega⟩;clear hi;induction j with
 |zero=>exact Nat.pos_of_ne_zero h2
 |succ j ih=>have:=ih (by omega);rw [zfN (by omega)];omega
theorem topV_all(n:Nat):topV (limbs n) (limbs n).length=n:=by unfold topV;rw [Nat.sub_self,List.drop_zero,zB]
end Go.Pl

namespace Go.Proofs
open Go.Ab Go.Pl
def FmtOK:Prop:=∀ d:Nat,d<1000000000→PCall Tryz.prog 209 [.int .u64 d,.int .i64 10] (.ret (.str (dec d)))
def RepOK:Prop:=∀ k:Nat,k≤8→PCall Tryz.prog 211 [.str [48],.int .i64 k] (.ret (.str (List.replicate k 48)))
noncomputable def cFmt:List V→Option PR:=zG (fun d:Nat=>[.int .u64 d,.int .i64 10]) (fun d=>d<1000000000) (fun d=>.ret (.str (dec d)))
theorem cFmt_ok(h:FmtOK):∀ args r,cFmt args=some r→PCall Tryz.prog 209 args r:=zk h
theorem znv(d:Nat)(h:d<1000000000):cFmt [.int .u64 d,.int .i64 10]=some (.ret (.str (dec d))):=zn (pat:=fun d:Nat=>[V.int .u64 d,.int .i64 10]) (fun x y h=>by simp at h;omega) d h
noncomputable def cRep:List V→Option PR:=zG (fun k:Nat=>[.str [48],.int .i64 k]) (fun k=>k≤8) (fun k=>.ret (.str (List.replicate k 48)))
theorem cRep_ok(h:RepOK):∀ args r,cRep args=some r→PCall Tryz.prog 211 args r:=zk h
theorem zv1(k:Nat)(h:k≤8):cRep [.str [48],.int .i64 k]=some (.ret (.str (List.replicate k 48))):=zn (pat:=fun k:Nat=>[V.str [48],.int .i64 k]) (fun x y h=>by simp at h;omega) k h
theorem topV_len {l:List Nat}(ok:okL l){i:Nat}(hi:i≤l.length):(dec (topV l i)).length≤9*i+1:=by
 refine zbY ?_ (by omega);have h1:=zS (ziX ok (l.length - i));rw [List.length_drop,show l.length - (l.length - i)=i by omega]at h1;have h3:(10:Nat) ^ (9*i+1)=1000000000 ^ i*10:=by rw [Nat.pow_succ,Nat.pow_mul]
 rw [h3];unfold topV;generalize (1000000000:Nat) ^ i=p at*;omega
set_option maxHeartbeats 4000000 in
theorem text_ok(hF:FmtOK)(hR:RepOK)(n:Nat)(hn:(limbs n).length≤100000):PCall Tryz.prog 180 [.fs (nats .u64 (limbs n)) (limbs n).length] (.ret (.str (dec n))):=by
 have hΓ:=zg (cFmt_ok hF) (zg (cRep_ok hR) zh);refine PCall.walk (rs:=[.tmp 2]) [0,2,3,4,5,8,10,11,12,24] [] mixed (hΓ) (zsc) call180 Tryz.func180 rfl Tryz.ntmps180 rfl (by kernel_rfl) (by simp) (by simp [push_cast]) ?_;by_cases h0:n=0
 ·subst h0;simp only [go_sem,zaA];rfl
 have hl0:0<(limbs n).length:=by
  rcases Nat.eq_zero_or_pos (limbs n).length with h|h
  ·exact absurd (limbs_nil.1 (List.eq_nil_of_length_eq_zero h)) h0
  ·exact h
 have ok:=zC n;have hpos:=fun i hi hl=>topV_pos (i:=i) h0 hi hl;have hall:=topV_all n;have hsz:∀ i,i≤(limbs n).length→(dec (topV (limbs n) i)).length≤1000000:=fun i hi=>by have:=topV_len ok hi;omega
 generalize limbs n=l at*;have hd0:decide ((l.length:Int)=0)=false:=by rw [decide_eq_false_iff_not];omega
 simp (disch:=first|assumption|(push_cast<;>omega)|omega) only [go_sem,hd0];refine AXs.loop mixed (hΓ) (zsc) (fun i:Nat=>[(0,.fs (nats .u64 l) l.length),(3,.ptr 0 0),(10,.int .i64 l.length),(11,.int .i64 i)]) (fun i=>match i with|0=>⟨[(0,bl0)],1⟩|i+1=>⟨[(0,bl1 0 1 (dec (topV l (i+1))).length),(1,bly (dec (topV l (i+1))))],2⟩) (fun i=>i≤l.length) (fun i=>l.length - i) 0 (by kernel_rfl) (Nat.zero_le _) (Sub.of0 [] rfl rfl ?_ ?_) ?_
 ·simp only [go_sem]
 ·simp only [go_sem,bl0,zkm]
 rintro i hi;have hts:=fun h=>zfN (l:=l) (i:=i) h;have hdl:=getD_lt ok (l.length - 1 - i);rcases i with _|i
 ·have hdt:topV l 1=l.getD (l.length - 1) 0:=by
   have:=hts hl0
   rwa [zj5,Nat.mul_zero,Nat.add_zero,Nat.sub_zero]at this
  rw [Nat.sub_zero]at hdl
  have hd1:decide (0<(l.length:Int))=true:=by rw [decide_eq_true_eq];omega
  have hn1:dec (l.getD (l.length - 1) 0)≠[]:=zln _
  have hs1:=hsz 1 hl0
  rw [hdt]at hs1
  simp (disch:=first|assumption|(push_cast<;>omega)|omega) only [go_sem,hd1,znv,ΔB_0,Int.sub_zero]
  refine⟨⟨by omega,by omega⟩,by omega,?_⟩
  refine zo 1 (by omega) (by omega) (Sub.of0 [] rfl rfl ?_ ?_)
  ·simp only [go_sem]
  ·rw [hdt];simp only [go_sem,bl1,bly,zkm];exact zt (zbn _)
 ·simp (disch:=first|assumption|(push_cast<;>omega)|omega) only [go_sem];refine AXc.introP (fun h1=>?_) (fun h1=>?_)
  ·have hlt:i+1<l.length:=by omega
   have hdt:=hts hlt;have hv:=hpos (i+1) (by omega) hi;have hs1:=hsz (i+1) hi;have hs2:=hsz (i+1+1) hlt;rw [hdt,zvj hv hdl]at hs2;have hcast:(9:Int) - ((dec (l.getD (l.length - 1 - (i+1)) 0)).length:Nat)=((9 - (dec (l.getD (l.length - 1 - (i+1)) 0)).length:Nat):Int):=by have:(dec (l.getD (l.length - 1 - (i+1)) 0)).length≤9:=zbY (by omega) (by omega);omega
   have hp0:=zc3 (l.getD (l.length - 1 - (i+1)) 0);have hn1:dec (l.getD (l.length - 1 - (i+1)) 0)≠[]:=zln _;have hd1:decide (0<((i+1:Nat):Int))=true:=by rw [decide_eq_true_eq];omega
   have hpl:(List.replicate (9 - (dec (l.getD (l.length - 1 - (i+1)) 0)).length) (48:UInt8)).length≤1000000:=by simp;omega
   rw [List.length_append,List.length_append]at hs2;have hdt':=congrArg dec hdt;rw [zvj hv hdl]at hdt';by_cases hz:9 - (dec (l.getD (l.length - 1 - (i+1)) 0)).length=0
   ·have hpad:List.replicate (9 - (dec (l.getD (l.length - 1 - (i+1)) 0)).length) (48:UInt8)=[]:=by rw [hz];rfl
    rw [hpad,List.nil_append]at hdt';simp (disch:=first|assumption|(push_cast<;>omega)|omega) only [go_sem,hd1,znv,hcast,zv1,hpad,ΔB_e,ΔB_1];refine⟨⟨by omega,by omega⟩,by omega,?_⟩;refine zo (i+1+1) hlt (by omega) (Sub.of0 [(1,2)] rfl rfl ?_ ?_)
    ·simp only [go_sem];simp
    ·rw [hdt'];simp only [List.length_append];simp only [go_sem,bl1,bly,zkm];exact zt (zbn _)
   ·have hpn:List.replicate (9 - (dec (l.getD (l.length - 1 - (i+1)) 0)).length) (48:UInt8)≠[]:=fun e=>hz (by simpa using congrArg List.length e);have hl2:(dec (topV l (i+1))++List.replicate (9 - (dec (l.getD (l.length - 1 - (i+1)) 0)).length) (48:UInt8)).length≤1000000:=by rw [List.length_append];omega
    simp (disch:=first|assumption|(push_cast<;>omega)|omega) only [go_sem,hd1,znv,hcast,zv1,ΔB_1,ΔB_3,List.length_append];refine⟨⟨by omega,by omega⟩,by omega,?_⟩;refine zo (i+1+1) hlt (by omega) (Sub.of0 [(1,3)] rfl rfl ?_ ?_)
    ·simp only [go_sem];simp
    ·rw [hdt'];simp only [List.length_append,List.append_assoc,Nat.add_assoc];simp only [go_sem,bl1,bly,zkm];exact zt (zbn _)
  ·have hie:i+1=l.length:=by omega
   rw [hie,hall];have hs:=hsz (i+1) hi;rw [hie,hall]at hs;have hp:=zc3 n;simp (disch:=first|assumption|(push_cast<;>omega)|omega) only [go_sem];refine AXa.go mixed (hΓ) (zsc) (by kernel_rfl) ?_;simp (disch:=first|assumption|(push_cast<;>omega)|omega) only [go_sem,ΔB_s]
end Go.Proofs

namespace Go.Proofs
open Go.Ab
def ixB(s:List UInt8)(c:UInt8):Int:=match s.findIdx? (· ==c)with|some i=>i|none=> -1
theorem find_range {α:Type} [Inhabited α](l:List α)(p:α→Bool):(List.range l.length).find? (fun i=>p (l.getD i default))=l.findIdx? p:=by
 induction l with
 |nil=>rfl
 |cons a l ih=>
  rw [List.length_cons,List.range_succ_eq_map,List.find?_cons,List.findIdx?_cons];have e0:(a::l).getD 0 default=a:=rfl;rw [e0];cases h:p a with
  |true=>rfl
  |false=>simp only [Bool.false_eq_true,if_false];rw [List.find?_map, ←ih];congr 1
theorem get_bang(s:ByteArray)(i:Nat):s[i]! =s.data.toList.getD i default:=by
 by_cases h:i<s.size
 ·rw [getElem!_pos s i h];have h':i<s.data.toList.length:=h;rw [List.getD_eq_getElem?_getD,List.getElem?_eq_getElem h'];rfl
 ·rw [getElem!_neg s i h];have h':¬i<s.data.toList.length:=h;rw [List.getD_eq_getElem?_getD,List.getElem?_eq_none (by omega)];rfl
theorem zoz(s:List UInt8)(c:UInt8):PCall Tryz.prog 251 [.str s,.int .u8 (c.toNat:Int)] (.ret (.int .i64 (ixB s c))):=by
 intro g w vs _ _ hvs hpw;obtain⟨u0,h0,r0⟩:=hpw 0 _ rfl;obtain⟨u1,h1,r1⟩:=hpw 1 _ rfl;obtain⟨b,rfl,hb⟩:=r0.inv_str;obtain rfl:=r1.inv_int;have hv:vs=#[.string b,.int .u8 (c.toNat:Int)]:=by
  apply Array.ext_getElem?;intro i;match i with
  |0=>exact h0
  |1=>exact h1
  |i+2=>rw [Array.getElem?_eq_none (by simp at hvs;omega)];rfl
 subst hv;refine .inr ⟨.int .i64 (ixB s c),w,?_,fun _=>none,.int .i64 (ixB s c),fun c a e=>(by cases e),Bel.refl _ _,rfl,.int _ _⟩;rw [run_callFunc_extern (fn:=Tryz.f251) Tryz.func251 (by kernel_rfl) rfl rfl (e:=Go.Extern.BytealgIndexByte.indexByte) (by kernel_rfl)];have hI:(Go.Extern.BytealgIndexByte.indexByte #[.string b,.int .u8 (c.toNat:Int)]).run Tryz.prog w=(match (List.range b.size).find? (fun i=>b[i]! ==(c.toNat:Int).toNat.toUInt8)with|some i=>Result.ok (.int .i64 (i:Int)) w|none=>.ok (.int .i64 (-1)) w):=by
  show ((match (List.range b.size).find? (fun i=>b[i]! ==(c.toNat:Int).toNat.toUInt8)with|some i=>pure (goInt i)|none=>pure (goInt (-1)):Sem Value)).run Tryz.prog w=_;cases (List.range b.size).find? (fun i=>b[i]! ==(c.toNat:Int).toNat.toUInt8)<;>rfl
 have e1:(fun i=>b[i]! ==c)=fun i=>(fun x=>x==c) (b.data.toList.getD i default):=by funext i;rw [get_bang]
 have e2:b.size=b.data.toList.length:=rfl;have e3:((c.toNat:Int).toNat.toUInt8)=c:=by simp
 rw [hI,e3,show List.find? (fun i=>b[i]! ==c) (List.range b.size)=s.findIdx? (fun x=>x==c)from by(rw [e1,e2, ←hb];exact find_range b.data.toList (fun x=>x==c))];unfold ixB;cases s.findIdx? (fun x=>x==c)<;>rfl
end Go.Proofs

namespace Go.Proofs
open Go.Ab Go.Pl
noncomputable def zwt:List V→Option PR:=zG (fun p:List UInt8×UInt8=>[.str p.1,.int .u8 (p.2.toNat:Int)]) (fun _=>True) (fun p=>.ret (.int .i64 (ixB p.1 p.2)))
theorem zrR:∀ args r,zwt args=some r→PCall Tryz.prog 251 args r:=zk fun p _=>zoz p.1 p.2
@[go_sem] theorem cIndexB_eq(s:List UInt8)(c:UInt8):zwt [.str s,.int .u8 (c.toNat:Int)]=some (.ret (.int .i64 (ixB s c))):=zn (fun p q h=>by simp at h;obtain⟨h1,h2⟩:=h;have:p.2=q.2:=UInt8.toNat_inj.1 (by omega);exact Prod.ext h1 this) (s,c) trivial
theorem zk2(s:List UInt8)(c:UInt8):PCall Tryz.prog 235 [.str s,.int .u8 (c.toNat:Int)] (.ret (.int .i64 (ixB s c))):=by have hΓ:=zg zrR zh;refine PCall.walk (rs:=[.tmp 4]) [0,1,4] [] mixed (hΓ) (zf) call235 Tryz.func235 rfl Tryz.ntmps235 rfl (by kernel_rfl) (by simp) (by simp [push_cast]) ?_;simp only [go_sem]
noncomputable def zhY:List V→Option PR:=zG (fun p:List UInt8×UInt8=>[.str p.1,.int .u8 (p.2.toNat:Int)]) (fun _=>True) (fun p=>.ret (.int .i64 (ixB p.1 p.2)))
theorem zjG:∀ args r,zhY args=some r→PCall Tryz.prog 235 args r:=zk fun p _=>zk2 p.1 p.2
@[go_sem] theorem cIndexByte_eq(s:List UInt8)(c:UInt8):zhY [.str s,.int .u8 (c.toNat:Int)]=some (.ret (.int .i64 (ixB s c))):=zn (fun p q h=>by simp at h;obtain⟨h1,h2⟩:=h;have:p.2=q.2:=UInt8.toNat_inj.1 (by omega);exact Prod.ext h1 this) (s,c) trivial
set_option maxHeartbeats 4000000 in
theorem zuR(s:List UInt8)(c:UInt8):PCall Tryz.prog 214 [.str s,.str [c]] (.ret (.int .i64 (ixB s c))):=by
 have hΓ:=zg zjG zh;refine PCall.walk (rs:=[.tmp 4]) [0,1,4,5,6,7,8,9,10,11,12,13,16,24,31,36,59,64,73,93,107,114,132,139] [] mixed (hΓ) (zf) call214 Tryz.func214 rfl Tryz.ntmps214 rfl (by kernel_rfl) (by simp) (by simp [push_cast]) ?_;simp only [go_sem];refine AXc.introP (fun h1=>?_) (fun h1=>?_)
 ·have h2:ixB s c=0:=by rw [←h1];simp [ixB,List.findIdx?_cons]
  simp only [go_sem,h2]
 ·simp only [go_sem];rfl
noncomputable def zwu:List V→Option PR:=zG (fun p:List UInt8×UInt8=>[.str p.1,.str [p.2]]) (fun _=>True) (fun p=>.ret (.int .i64 (ixB p.1 p.2)))
theorem zrS:∀ args r,zwu args=some r→PCall Tryz.prog 214 args r:=zk fun p _=>zuR p.1 p.2
@[go_sem] theorem cIndex1_eq(s:List UInt8)(c:UInt8):zwu [.str s,.str [c]]=some (.ret (.int .i64 (ixB s c))):=zn (fun p q h=>by simp at h;exact Prod.ext h.1 h.2) (s,c) trivial
def cutV(s:List UInt8)(c:UInt8):V:=match s.findIdx? (· ==c)with
 |some i=>.tup [.str (s.take i),.str (s.drop (i+1)),.bool true]
 |none=>.tup [.str s,.str [],.bool false]
theorem zq9 {s:List UInt8}{c:UInt8}{i:Nat}(h:s.findIdx? (· ==c)=some i):i<s.length:=by rw [List.findIdx?_eq_some_iff_getElem]at h;exact h.1
set_option maxHeartbeats 4000000 in
theorem cutL_ok(s:List UInt8)(c:UInt8)(hs:s.length≤1000000000):PCall Tryz.prog 183 [.str s,.str [c]] (.ret (cutV s c)):=by
 have hΓ:=zg zrS zh;refine PCall.walk (rs:=[.tmp 4,.tmp 5,.tmp 6]) [0,1,4,5,6,7,12] [] mixed (hΓ) (zf) call183 Tryz.func183 rfl Tryz.ntmps183 rfl (by kernel_rfl) (by simp) (by simp [push_cast]) ?_;simp only [go_sem];have hx:ixB s c=match s.findIdx? (· ==c)with|some i=>(i:Int)|none=> -1:=rfl
 unfold cutV;cases h:s.findIdx? (· ==c)with
 |none=>rw [h]at hx;simp only at hx;rw [hx];simp only [go_sem]
 |some i=>
  rw [h]at hx;simp only at hx;rw [hx];have hi:=zq9 h;simp only [go_sem];refine AXc.introP (fun h1=>?_) (fun h1=>?_);rotate_left;·omega
  simp (disch:=first|assumption|(push_cast<;>omega)|omega) only [go_sem];refine⟨⟨by omega,by omega⟩,⟨by omega,by omega,by omega⟩,?_⟩;rw [List.take_length]
theorem cutV_tup(s:List UInt8)(c:UInt8):∃ a b d,cutV s c=.tup [.str a,.str b,.bool d]:=by unfold cutV;split<;>exact⟨_,_,_,rfl⟩
noncomputable def cCutL:List V→Option PR:=zG (fun p:List UInt8×UInt8=>[.str p.1,.str [p.2]]) (fun p=>p.1.length≤1000000000) (fun p=>.ret (cutV p.1 p.2))
theorem cCutL_ok:∀ args r,cCutL args=some r→PCall Tryz.prog 183 args r:=zk fun p h=>cutL_ok p.1 p.2 h
@[go_sem] theorem cCutL_eq(s:List UInt8)(c:UInt8)(h:s.length≤1000000000):cCutL [.str s,.str [c]]=some (.ret (cutV s c)):=zn (fun p q h=>by simp at h;exact Prod.ext h.1 h.2) (s,c) h
set_option maxHeartbeats 4000000 in
theorem cut_ok(s:List UInt8)(c:UInt8)(hs:s.length≤1000000000):PCall Tryz.prog 155 [.str s,.str [c]] (.ret (cutV s c)):=by
 have hΓ:=zg cCutL_ok zh;refine PCall.walk (rs:=[.tmp 4,.tmp 5,.tmp 6]) [0,1,4,5,6] [] mixed (hΓ) (zf) call155 Tryz.func155 rfl Tryz.ntmps155 rfl (by kernel_rfl) (by simp) (by simp [push_cast]) ?_;obtain⟨a,b,d,h⟩:=cutV_tup s c;simp (disch:=first|assumption|(push_cast<;>omega)|omega) only [go_sem,h]
noncomputable def cCut:List V→Option PR:=zG (fun p:List UInt8×UInt8=>[.str p.1,.str [p.2]]) (fun p=>p.1.length≤1000000000) (fun p=>.ret (cutV p.1 p.2))
theorem cCut_ok:∀ args r,cCut args=some r→PCall Tryz.prog 155 args r:=zk fun p h=>cut_ok p.1 p.2 h
@[go_sem] theorem cCut_eq(s:List UInt8)(c:UInt8)(h:s.length≤1000000000):cCut [.str s,.str [c]]=some (.ret (cutV s c)):=zn (fun p q h=>by simp at h;exact Prod.ext h.1 h.2) (s,c) h
set_option maxHeartbeats 4000000 in
theorem zjw(s p:List UInt8):PCall Tryz.prog 213 [.str s,.str p] (.ret (.bool (p.isPrefixOf s))):=by
 refine PCall.walk (rs:=[.tmp 4]) [0,1,4] [] mixed (zh) (zf) call213 Tryz.func213 rfl Tryz.ntmps213 rfl (by kernel_rfl) (by simp) (by simp [push_cast]) ?_;simp only [go_sem];refine⟨fun h=>⟨h,by omega,by simpa using h⟩,?_⟩;rw [Bool.eq_iff_iff];simp only [Bool.and_eq_true,decide_eq_true_eq,List.isPrefixOf_iff_prefix];constructor
 ·rintro⟨h1,h2⟩;rw [←h2];exact List.take_prefix _ _
 ·rintro⟨t,rfl⟩;exact⟨by simp;omega,by simp⟩
noncomputable def zgI:List V→Option PR:=zG (fun p:List UInt8×List UInt8=>[.str p.1,.str p.2]) (fun _=>True) (fun p=>.ret (.bool (p.2.isPrefixOf p.1)))
theorem zdM:∀ args r,zgI args=some r→PCall Tryz.prog 213 args r:=zk fun p _=>zjw p.1 p.2
@[go_sem] theorem cHasPrefixL_eq(s p:List UInt8):zgI [.str s,.str p]=some (.ret (.bool (p.isPrefixOf s))):=zn (fun p q h=>by simp at h;exact Prod.ext h.1 h.2) (s,p) trivial
theorem zk5(s p:List UInt8):PCall Tryz.prog 232 [.str s,.str p] (.ret (.bool (p.isPrefixOf s))):=by have hΓ:=zg zdM zh;refine PCall.walk (rs:=[.tmp 4]) [0,1,4] [] mixed (hΓ) (zf) call232 Tryz.func232 rfl Tryz.ntmps232 rfl (by kernel_rfl) (by simp) (by simp [push_cast]) ?_;simp only [go_sem]
noncomputable def zhZ:List V→Option PR:=zG (fun p:List UInt8×List UInt8=>[.str p.1,.str p.2]) (fun _=>True) (fun p=>.ret (.bool (p.2.isPrefixOf p.1)))
theorem zaR:∀ args r,zhZ args=some r→PCall Tryz.prog 232 args r:=zk fun p _=>zk5 p.1 p.2
@[go_sem] theorem cHasPrefix_eq(s p:List UInt8):zhZ [.str s,.str p]=some (.ret (.bool (p.isPrefixOf s))):=zn (fun p q h=>by simp at h;exact Prod.ext h.1 h.2) (s,p) trivial
def zba(s p:List UInt8):V:=if p.isPrefixOf s=true then .tup [.str (s.drop p.length),.bool true]else .tup [.str s,.bool false]
set_option maxHeartbeats 4000000 in
theorem znf(s p:List UInt8):PCall Tryz.prog 182 [.str s,.str p] (.ret (zba s p)):=by
 have hΓ:=zg zdM zh;refine PCall.walk (rs:=[.tmp 4,.tmp 5]) [0,1,4,5,9] [] mixed (hΓ) (zf) call182 Tryz.func182 rfl Tryz.ntmps182 rfl (by kernel_rfl) (by simp) (by simp [push_cast]) ?_;unfold zba;cases h:p.isPrefixOf s with
 |false=>simp only [go_sem,h]
 |true=>
  have hl:p.length≤s.length:=by rw [List.isPrefixOf_iff_prefix]at h;obtain⟨t,rfl⟩:=h;simp
  simp (disch:=first|assumption|(push_cast<;>omega)|omega) only [go_sem,h,List.take_length];omega
theorem zlo(s p:List UInt8):∃ a d,zba s p=.tup [.str a,.bool d]:=by unfold zba;split<;>exact⟨_,_,rfl⟩
noncomputable def zlD:List V→Option PR:=zG (fun p:List UInt8×List UInt8=>[.str p.1,.str p.2]) (fun _=>True) (fun p=>.ret (zba p.1 p.2))
theorem zlC:∀ args r,zlD args=some r→PCall Tryz.prog 182 args r:=zk fun p _=>znf p.1 p.2
@[go_sem] theorem cCutPrefL_eq(s p:List UInt8):zlD [.str s,.str p]=some (.ret (zba s p)):=zn (fun p q h=>by simp at h;exact Prod.ext h.1 h.2) (s,p) trivial
theorem zrk(s p:List UInt8):PCall Tryz.prog 154 [.str s,.str p] (.ret (zba s p)):=by
 have hΓ:=zg zlC zh;refine PCall.walk (rs:=[.tmp 4,.tmp 5]) [0,1,4,5] [] mixed (hΓ) (zf) call154 Tryz.func154 rfl Tryz.ntmps154 rfl (by kernel_rfl) (by simp) (by simp [push_cast]) ?_;obtain⟨a,d,h⟩:=zlo s p;simp (disch:=first|assumption|(push_cast<;>omega)|omega) only [go_sem,h]
noncomputable def zoY:List V→Option PR:=zG (fun p:List UInt8×List UInt8=>[.str p.1,.str p.2]) (fun _=>True) (fun p=>.ret (zba p.1 p.2))
theorem znw:∀ args r,zoY args=some r→PCall Tryz.prog 154 args r:=zk fun p _=>zrk p.1 p.2
@[go_sem] theorem cCutPref_eq(s p:List UInt8):zoY [.str s,.str p]=some (.ret (zba s p)):=zn (fun p q h=>by simp at h;exact Prod.ext h.1 h.2) (s,p) trivial
end Go.Proofs
