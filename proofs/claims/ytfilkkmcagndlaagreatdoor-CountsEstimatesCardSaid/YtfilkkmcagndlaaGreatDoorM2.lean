/- Lists of counts: whether they are valid. -/
import Derived.Test.YtfilkkmcagndlaaGreatDoorAbMapS
set_option linter.all false
namespace Go.Proofs
open Go.Ab Go.Cnt
noncomputable def incB(l:List Ent):Bool:=@decide (∀ i,i+1<l.length→lt (nthE l i).1 (nthE l (i+1)).1=true) (Classical.propDecidable _)
open Classical in
theorem incB_t {l:List Ent}(h:∀ i,i+1<l.length→lt (nthE l i).1 (nthE l (i+1)).1=true):incB l=true:=by unfold incB;exact decide_eq_true h
open Classical in
theorem incB_f {l:List Ent}{i:Nat}(hi:i+1<l.length)(h:lt (nthE l i).1 (nthE l (i+1)).1=false):incB l=false:=by unfold incB;exact decide_eq_false fun k=>by rw [k i hi]at h;cases h
set_option maxHeartbeats 4000000 in
theorem zlX(l:List Ent)(hl:l.length≤1000000):PCall Tryz.prog 47 [.fs (cnts l) l.length,.fn 48 []] (.ret (.bool (incB l))):=by
 refine PCall.walk (rs:=[.tmp 4]) [0,1,4,5,9,23] [] mixed (zf zml zh) (zg) call47 Tryz.func47 rfl Tryz.ntmps47 rfl (by kernel_rfl) (by simp) (by simp [push_cast]) ?_;simp only [go_sem];refine AXs.loop mixed (zf zml zh) (zg) (fun i:Nat=>[(0,.fs (cnts l) l.length),(1,.fn 48 []),(5,.int .i64 i)]) (fun _=>⟨[],0⟩) (fun i=>1≤i∧(i≤1∨i≤l.length)∧∀ j,j+1<i→lt (nthE l j).1 (nthE l (j+1)).1=true) (fun i=>l.length+1 - i) 1 (by kernel_rfl)
  ⟨Nat.le_refl _,.inl (Nat.le_refl _),fun j hj=>by omega⟩ (Sub.of0 [] rfl rfl ?_ ?_) ?_
 ·simp only [go_sem]
 ·simp only [go_sem]
 rintro i ⟨h1,h2,h3⟩;simp only [go_sem];refine AXc.introP (fun h4=>?_) (fun h4=>?_)
 ·have a1:=zci l (i - 1) (by omega);have a2:=zci l i (by omega);simp (disch:=first|assumption|(push_cast<;>omega)|omega) only [go_sem,a1,a2];refine⟨by omega,by omega,?_⟩;refine AXc.introP (fun h5=>?_) (fun h5=>?_)
  ·simp only [go_sem];exact(incB_f (i:=i - 1) (by omega) (by rw [show i - 1+1=i by omega];exact(zy8 _ _).1 h5)).symm
  ·have h5':¬0≤cmpK (nthE l (i - 1)).1 (nthE l i).1:=h5;have h6:lt (nthE l (i - 1)).1 (nthE l i).1=true:=(zmc _ _).1 (by omega);simp (disch:=first|assumption|(push_cast<;>omega)|omega) only [go_sem];refine zi (i+1) ⟨by omega,by omega,fun j hj=>?_⟩ (by omega) (Sub.of0 [] rfl rfl ?_ ?_)
   ·by_cases hji:j+1<i
    ·exact h3 j hji
    ·have:j=i - 1:=by omega
     subst this;rw [show i - 1+1=i by omega];exact h6
   ·simp only [go_sem];simp
   ·simp only [go_sem]
 ·simp only [go_sem];refine AXa.go mixed (zf zml zh) (zg) (by kernel_rfl) ?_;simp only [go_sem];exact(incB_t fun j hj=>h3 j (by omega)).symm
noncomputable def cInc:List V→Option PR:=zH (fun l:List Ent=>[.fs (cnts l) l.length,.fn 48 []]) (fun l=>l.length≤1000000) fun l=>.ret (.bool (incB l))
theorem cInc_eq(l:List Ent)(n:Nat)(hn:n=l.length)(hl:l.length≤1000000):cInc [.fs (cnts l) n,.fn 48 []]=some (.ret (.bool (incB l))):=by subst hn;exact zn (pat:=fun l:List Ent=>[.fs (cnts l) l.length,.fn 48 []]) (fun x y h=>by simp at h;exact zbp h.1) l hl
theorem zgQ:∀ args r,cInc args=some r→PCall Tryz.prog 47 args r:=zo zlX
attribute [go_sem] cInc_eq
def zcH(q:Str→Bool)(e:Ent):Bool:= !(decide (e.2<1)||decide (1000000<e.2)|| !q e.1.1|| !q e.1.2)
noncomputable def vB(q:Str→Bool)(l:List Ent):Bool:=decide (l.length≤30000)&&l.all (zcH q)&&incB l
theorem zvA {p:Ent→Bool}:∀ {l:List Ent},(∀ i,i<l.length→p (nthE l i)=true)→l.all p=true
 |[],_=>rfl
 |e::l,h=>by rw [List.all_cons,zvA (l:=l) fun i hi=>h (i+1) (by simpa using hi)];have:=h 0 (by simp);simpa [nthE] using this
theorem zcq {l:List Ent}{i:Nat}(h:i<l.length):nthE l i∈l:=by unfold nthE;rw [List.getD_eq_getElem?_getD,List.getElem?_eq_getElem h];exact List.getElem_mem h
theorem zvB {p:Ent→Bool}{l:List Ent}{i:Nat}(hi:i<l.length)(h:p (nthE l i)=false):l.all p=false:=by
 cases e:l.all p with
 |false=>rfl
 |true=>rw [List.all_eq_true.1 e _ (zcq hi)]at h;cases h
set_option maxHeartbeats 4000000 in
theorem zmx(l:List Ent)(hl:l.length≤1000000):PCall Tryz.prog 22 [.fs (cnts l) l.length,.fn 24 []] (.ret (.bool (vB nameB l))):=by
 refine PCall.walk (rs:=[.tmp 4]) [0,1,4,6,9,10,11,12,13,37] [] mixed (zf zhG (zf zgQ zh)) (zg) call22 Tryz.func22 rfl Tryz.ntmps22 rfl (by kernel_rfl) (by simp) (by simp [push_cast]) ?_;simp only [go_sem];refine AXc.introP (fun h1=>?_) (fun h1=>?_)
 ·simp only [go_sem];have:¬l.length≤30000:=by omega
  simp [vB,this]
 have h1':l.length≤30000:=by omega
 simp only [go_sem];refine AXs.loop mixed (zf zhG (zf zgQ zh)) (zg) (fun i:Nat=>[(0,.fs (cnts l) l.length),(1,.fn 24 []),(10,.fs (cnts l) l.length),(11,.int .i64 l.length),(12,.int .i64 i)]) (fun _=>⟨[],0⟩) (fun i=>i≤l.length∧∀ j,j<i→zcH nameB (nthE l j)=true) (fun i=>l.length - i) 0 (by kernel_rfl)
  ⟨Nat.zero_le _,fun j hj=>by omega⟩ (Sub.of0 [] rfl rfl ?_ ?_) ?_
 ·simp only [go_sem]
 ·simp only [go_sem]
 rintro i ⟨h2,h3⟩;simp only [go_sem];refine AXc.introP (fun h4=>?_) (fun h4=>?_)
 ·have a1:=zci l i (by omega);simp (disch:=first|assumption|(push_cast<;>omega)|omega) only [go_sem,a1];refine⟨by omega,?_⟩;have hb:(decide ((nthE l i).2<1)||decide (1000000<(nthE l i).2)|| !nameB (nthE l i).1.1|| !nameB (nthE l i).1.2)= !zcH nameB (nthE l i):=by simp [zcH]
  rw [hb];cases hg:zcH nameB (nthE l i)with
  |false=>
   simp (disch:=first|assumption|(push_cast<;>omega)|omega) only [go_sem];have:=zvB (p:=zcH nameB) (l:=l) (i:=i) (by omega) hg;simp [vB,this]
  |true=>
   simp (disch:=first|assumption|(push_cast<;>omega)|omega) only [go_sem];refine zi (i+1) ⟨by omega,fun j hj=>?_⟩ (by omega) (Sub.of0 [] rfl rfl ?_ ?_)
   ·by_cases hji:j<i
    ·exact h3 j hji
    ·obtain rfl:j=i:=by omega
     exact hg
   ·simp only [go_sem];simp
   ·simp only [go_sem]
 ·simp only [go_sem];refine AXa.go mixed (zf zhG (zf zgQ zh)) (zg) (by kernel_rfl) ?_;simp (disch:=first|assumption|(push_cast<;>omega)|omega) only [go_sem];have:=zvA (p:=zcH nameB) (l:=l) fun j hj=>h3 j (by omega);simp [vB,h1',this]
set_option maxHeartbeats 4000000 in
theorem zkN(l:List Ent)(hl:l.length≤1000000):PCall Tryz.prog 22 [.fs (cnts l) l.length,.fn 23 []] (.ret (.bool (vB zeF l))):=by
 refine PCall.walk (rs:=[.tmp 4]) [0,1,4,6,9,10,11,12,13,37] [] mixed (zf zi3 (zf zgQ zh)) (zg) call22 Tryz.func22 rfl Tryz.ntmps22 rfl (by kernel_rfl) (by simp) (by simp [push_cast]) ?_;simp only [go_sem];refine AXc.introP (fun h1=>?_) (fun h1=>?_)
 ·simp only [go_sem];have:¬l.length≤30000:=by omega
  simp [vB,this]
 have h1':l.length≤30000:=by omega
 simp only [go_sem];refine AXs.loop mixed (zf zi3 (zf zgQ zh)) (zg) (fun i:Nat=>[(0,.fs (cnts l) l.length),(1,.fn 23 []),(10,.fs (cnts l) l.length),(11,.int .i64 l.length),(12,.int .i64 i)]) (fun _=>⟨[],0⟩) (fun i=>i≤l.length∧∀ j,j<i→zcH zeF (nthE l j)=true) (fun i=>l.length - i) 0 (by kernel_rfl)
  ⟨Nat.zero_le _,fun j hj=>by omega⟩ (Sub.of0 [] rfl rfl ?_ ?_) ?_
 ·simp only [go_sem]
 ·simp only [go_sem]
 rintro i ⟨h2,h3⟩;simp only [go_sem];refine AXc.introP (fun h4=>?_) (fun h4=>?_)
 ·have a1:=zci l i (by omega);simp (disch:=first|assumption|(push_cast<;>omega)|omega) only [go_sem,a1];refine⟨by omega,?_⟩;have hb:(decide ((nthE l i).2<1)||decide (1000000<(nthE l i).2)|| !zeF (nthE l i).1.1|| !zeF (nthE l i).1.2)= !zcH zeF (nthE l i):=by simp [zcH]
  rw [hb];cases hg:zcH zeF (nthE l i)with
  |false=>
   simp (disch:=first|assumption|(push_cast<;>omega)|omega) only [go_sem];have:=zvB (p:=zcH zeF) (l:=l) (i:=i) (by omega) hg;simp [vB,this]
  |true=>
   simp (disch:=first|assumption|(push_cast<;>omega)|omega) only [go_sem];refine zi (i+1) ⟨by omega,fun j hj=>?_⟩ (by omega) (Sub.of0 [] rfl rfl ?_ ?_)
   ·by_cases hji:j<i
    ·exact h3 j hji
    ·obtain rfl:j=i:=by omega
     exact hg
   ·simp only [go_sem];simp
   ·simp only [go_sem]
 ·simp only [go_sem];refine AXa.go mixed (zf zi3 (zf zgQ zh)) (zg) (by kernel_rfl) ?_;simp (disch:=first|assumption|(push_cast<;>omega)|omega) only [go_sem];have:=zvA (p:=zcH zeF) (l:=l) fun j hj=>h3 j (by omega);simp [vB,h1',this]
def vlF(b:Bool):FuncId:=match b with|true=>23|false=>24
def vlQ(b:Bool):Str→Bool:=match b with|true=>zeF|false=>nameB
noncomputable def cVL:List V→Option PR:=zH (fun p:Bool×List Ent=>[.fs (cnts p.2) p.2.length,.fn (vlF p.1) []]) (fun p=>p.2.length≤1000000) fun p=>.ret (.bool (vB (vlQ p.1) p.2))
theorem zzA(x y:Bool×List Ent)(h:([.fs (cnts x.2) x.2.length,.fn (vlF x.1) []]:List V)=[.fs (cnts y.2) y.2.length,.fn (vlF y.1) []]):x=y:=by
 simp only [List.cons.injEq,V.fs.injEq,V.fn.injEq,and_true]at h;obtain⟨⟨h1,_⟩,h2⟩:=h;obtain⟨a,l⟩:=x;obtain⟨b,r⟩:=y;have hl:=zbp h1;simp only at hl h2;subst hl;cases a<;>cases b<;>first|rfl|(exact absurd h2 (by decide))
theorem cVL_t(l:List Ent)(n:Nat)(hn:n=l.length)(hl:l.length≤1000000):cVL [.fs (cnts l) n,.fn 23 []]=some (.ret (.bool (vB zeF l))):=by subst hn;exact zn (pat:=fun p:Bool×List Ent=>[.fs (cnts p.2) p.2.length,.fn (vlF p.1) []]) zzA (true,l) hl
theorem cVL_f(l:List Ent)(n:Nat)(hn:n=l.length)(hl:l.length≤1000000):cVL [.fs (cnts l) n,.fn 24 []]=some (.ret (.bool (vB nameB l))):=by subst hn;exact zn (pat:=fun p:Bool×List Ent=>[.fs (cnts p.2) p.2.length,.fn (vlF p.1) []]) zzA (false,l) hl
theorem cVL_ok:∀ args r,cVL args=some r→PCall Tryz.prog 22 args r:=zo fun p hp=>by
 obtain⟨b,l⟩:=p;cases b
 ·exact zmx l hp
 ·exact zkN l hp
attribute [go_sem] cVL_t cVL_f
noncomputable def zct(a b:List Ent):Bool:=vB zeF a&&vB nameB b
theorem zy2(a b:List Ent)(ha:a.length≤1000000)(hb:b.length≤1000000):PCall Tryz.prog 9 [.agg [.fs (cnts a) a.length,.fs (cnts b) b.length]] (.ret (.bool (zct a b))):=by
 refine PCall.walk (rs:=[.tmp 2]) [0,1,2] [] mixed (zf cVL_ok zh) (zg) call9 Tryz.func9 rfl Tryz.ntmps9 rfl (by kernel_rfl) (by simp) (by simp [push_cast]) ?_;simp (disch:=first|assumption|(push_cast<;>omega)|omega) only [go_sem];rfl
noncomputable def zAz:List V→Option PR:=zH (fun p:List Ent×List Ent=>[.agg [.fs (cnts p.1) p.1.length,.fs (cnts p.2) p.2.length]]) (fun p=>p.1.length≤1000000∧p.2.length≤1000000) fun p=>.ret (.bool (zct p.1 p.2))
theorem zvq(a b:List Ent)(n m:Nat)(hn:n=a.length)(hm:m=b.length)(ha:a.length≤1000000)(hb:b.length≤1000000):zAz [.agg [.fs (cnts a) n,.fs (cnts b) m]]=some (.ret (.bool (zct a b))):=by subst hn hm;exact zn (pat:=fun p:List Ent×List Ent=>[.agg [.fs (cnts p.1) p.1.length,.fs (cnts p.2) p.2.length]]) (fun x y h=>by simp only [List.cons.injEq,V.agg.injEq,V.fs.injEq,and_true]at h;exact Prod.ext (zbp h.1.1) (zbp h.2.1)) (a,b) ⟨ha,hb⟩
theorem zvp:∀ args r,zAz args=some r→PCall Tryz.prog 9 args r:=zo fun p hp=>zy2 p.1 p.2 hp.1 hp.2
attribute [go_sem] zvq
end Go.Proofs

namespace Go.Proofs
open Go.Ab Go.Cnt
theorem rname_ok(s:Str):PCall Tryz.prog 49 [.str s] (.ret (.bool (nameB s))):=by
 refine PCall.walk (rs:=[.tmp 2]) [0,2] [] mixed (zh) (zg) call49 Tryz.func49 rfl Tryz.ntmps49 rfl (by kernel_rfl) (by simp) (by simp [push_cast]) ?_;simp only [go_sem];have e:decide ((s.length:Int)≤40)=decide (s.length≤40):=decide_eq_decide.2 (by omega);unfold nameB;rw [e];cases s with
 |nil=>rfl
 |cons c s=>simp;omega
noncomputable def cRName:List V→Option PR:=zH (fun a:Str=>[.str a]) (fun _=>True) fun a=>.ret (.bool (nameB a))
theorem zzK(a:Str):cRName [.str a]=some (.ret (.bool (nameB a))):=zn (pat:=fun a:Str=>[.str a]) (fun x y h=>by simpa using h) a trivial
theorem zi0:∀ args r,cRName args=some r→PCall Tryz.prog 49 args r:=zo fun a _=>rname_ok a
attribute [go_sem] zzK
theorem bl_at:∀(i:Nat) (a b:Str),a.take i=b.take i→i<a.length→i<b.length→a.getD i 0<b.getD i 0→Op.bytesLess a b=true
 |0,x::a,y::b,_,_,_,h=>(zfz ..).2 (.inl h)
 |i+1,x::a,y::b,h,ha,hb,hl=>by simp only [List.take_succ_cons,List.cons.injEq]at h;exact(zfz ..).2 (.inr ⟨h.1,bl_at i a b h.2 (by simpa using ha) (by simpa using hb) (by simpa using hl)⟩)
 |_,[],_,_,ha,_,_=>by simp at ha
 |_,_::_,[],_,_,hb,_=>by simp at hb
theorem zmm:∀(a b:Str),a=b.take a.length→a.length<b.length→Op.bytesLess a b=true
 |[],[],_,h=>by simp at h
 |[],_::_,_,_=>rfl
 |x::a,[],_,h=>by simp at h
 |x::a,y::b,h,hl=>by simp only [List.length_cons,List.take_succ_cons,List.cons.injEq]at h;exact(zfz ..).2 (.inr ⟨h.1,zmm a b h.2 (by simpa using hl)⟩)
theorem zy6 {a b:Str}(h:Op.bytesLess a b=true):cmpS a b= -1:=by unfold cmpS;rw [if_pos h]
theorem zy7 {a b:Str}(h:Op.bytesLess b a=true):cmpS a b=1:=by
 rcases ze9 a b with⟨k,e⟩|⟨k,e⟩|⟨k,k',e⟩
 ·have:=zcK h k;rw [za8]at this;cases this
 ·subst k;rw [za8]at h;cases h
 ·exact e
theorem cmpS_eq(a:Str):cmpS a a=0:=by unfold cmpS;simp [za8]
theorem u8_lt(x y:UInt8):((x.toNat:Int)<(y.toNat:Int))↔x<y:=by rw [UInt8.lt_iff_toNat_lt];omega
theorem zmA(a:Str)(i:Nat)(h:i<a.length):a.take (i+1)=a.take i++[a.getD i 0]:=by rw [List.take_add_one,List.getD_eq_getElem?_getD,List.getElem?_eq_getElem h];rfl
set_option maxHeartbeats 4000000 in
theorem rcmp_ok(a b:Str)(ha:a.length≤1000000)(hb:b.length≤1000000):PCall Tryz.prog 53 [.str a,.str b] (.ret (.int .i64 (cmpS a b))):=by
 refine PCall.walk (rs:=[.tmp 4]) [0,1,4,5,15,24,31,36,41] [] mixed (zh) (zg) call53 Tryz.func53 rfl Tryz.ntmps53 rfl (by kernel_rfl) (by simp) (by simp [push_cast]) ?_;simp only [go_sem];refine AXs.loop mixed (zh) (zg) (fun i:Nat=>[(0,.str a),(1,.str b),(5,.int .i64 i)]) (fun _=>⟨[],0⟩) (fun i=>i≤a.length∧i≤b.length∧a.take i=b.take i) (fun i=>a.length - i) 0 (by kernel_rfl)
  ⟨Nat.zero_le _,Nat.zero_le _,rfl⟩ (Sub.of0 [] rfl rfl ?_ ?_) ?_
 ·simp only [go_sem]
 ·simp only [go_sem]
 rintro i ⟨h1,h2,h3⟩;simp only [go_sem];by_cases h4:i<a.length∧i<b.length
 ·obtain⟨h4,h5⟩:=h4;have e1:decide ((i:Int)<(a.length:Int))=true:=decide_eq_true (by omega);have e2:decide ((i:Int)<(b.length:Int))=true:=decide_eq_true (by omega);simp (disch:=first|assumption|(push_cast<;>omega)|omega) only [go_sem,e1,e2];refine⟨by omega,by omega,?_⟩;refine AXc.introP (fun h6=>?_) (fun h6=>?_)
  ·simp only [go_sem];exact(zy6 (bl_at i a b h3 h4 h5 ((u8_lt _ _).1 h6))).symm
  simp (disch:=first|assumption|(push_cast<;>omega)|omega) only [go_sem];refine⟨by omega,by omega,?_⟩;refine AXc.introP (fun h7=>?_) (fun h7=>?_)
  ·simp only [go_sem];exact(zy7 (bl_at i b a h3.symm h5 h4 ((u8_lt _ _).1 h7))).symm
  simp (disch:=first|assumption|(push_cast<;>omega)|omega) only [go_sem];have h8:a.getD i 0=b.getD i 0:=UInt8.toNat_inj.1 (by omega);refine zi (i+1) ⟨by omega,by omega,?_⟩ (by omega) (Sub.of0 [] rfl rfl ?_ ?_)
  ·rw [zmA a i h4,zmA b i h5,h3,h8]
  ·simp only [go_sem];simp
  ·simp only [go_sem]
 ·have e1:(decide ((i:Int)<(a.length:Int))&&decide ((i:Int)<(b.length:Int)))=false:=by
   simp only [Bool.and_eq_false_iff,decide_eq_false_iff_not]
   omega
  simp only [go_sem,e1]
  refine AXa.go mixed (zh) (zg) (by kernel_rfl) ?_
  simp only [go_sem]
  refine AXc.introP (fun h6=>?_) (fun h6=>?_)
  ·simp only [go_sem];have:i=a.length:=by omega
   subst this;rw [List.take_length]at h3;exact(zy6 (zmm a b h3 (by omega))).symm
  simp only [go_sem]
  refine AXc.introP (fun h7=>?_) (fun h7=>?_)
  ·simp only [go_sem];have:i=b.length:=by omega
   subst this;rw [List.take_length]at h3;exact(zy7 (zmm b a h3.symm (by omega))).symm
  simp only [go_sem]
  have k1:i=a.length:=by omega
  have k2:a.length=b.length:=by omega
  rw [k1,List.take_length,k2,List.take_length]at h3
  rw [h3,cmpS_eq]
noncomputable def cRCmp:List V→Option PR:=zH (fun p:Str×Str=>[.str p.1,.str p.2]) (fun p=>p.1.length≤1000000∧p.2.length≤1000000) fun p=>.ret (.int .i64 (cmpS p.1 p.2))
theorem cRCmp_eq(a b:Str)(ha:a.length≤1000000)(hb:b.length≤1000000):cRCmp [.str a,.str b]=some (.ret (.int .i64 (cmpS a b))):=zn (pat:=fun p:Str×Str=>[.str p.1,.str p.2]) (fun x y h=>by simp at h;exact Prod.ext h.1 h.2) (a,b) ⟨ha,hb⟩
theorem zaF:∀ args r,cRCmp args=some r→PCall Tryz.prog 53 args r:=zo fun p hp=>rcmp_ok p.1 p.2 hp.1 hp.2
attribute [go_sem] cRCmp_eq
def zfN(k:Key):Prop:=k.1.length≤1000000∧k.2.length≤1000000
theorem order_ok(x y:Ent)(hx:zfN x.1)(hy:zfN y.1):PCall Tryz.prog 50 [.agg [.str x.1.1,.str x.1.2,.int .i64 x.2],.agg [.str y.1.1,.str y.1.2,.int .i64 y.2]] (.ret (.int .i64 (cmpK x.1 y.1))):=by
 obtain⟨hx1,hx2⟩:=hx;obtain⟨hy1,hy2⟩:=hy;refine PCall.walk (rs:=[.tmp 4]) [0,1,2,3,4,5,12] [] mixed (zf zaF zh) (zg) call50 Tryz.func50 rfl Tryz.ntmps50 rfl (by kernel_rfl) (by simp) (by simp [push_cast]) ?_;simp (disch:=first|assumption|(push_cast<;>omega)|omega) only [go_sem];refine AXc.introN (fun h1=>?_) (fun h1=>?_)
 ·simp (disch:=first|assumption|(push_cast<;>omega)|omega) only [go_sem];unfold cmpK;rw [if_pos h1]
 ·simp (disch:=first|assumption|(push_cast<;>omega)|omega) only [go_sem];unfold cmpK;rw [if_neg (by simpa using h1)]
noncomputable def cOrder:List V→Option PR:=zH (fun p:Ent×Ent=>[.agg (entV p.1),.agg (entV p.2)]) (fun p=>zfN p.1.1∧zfN p.2.1) fun p=>.ret (.int .i64 (cmpK p.1.1 p.2.1))
theorem zzX(a b c d:Str)(n m:Int)(h1:zfN (a,b))(h2:zfN (c,d)):cOrder [.agg [.str a,.str b,.int .i64 n],.agg [.str c,.str d,.int .i64 m]]=some (.ret (.int .i64 (cmpK (a,b) (c,d)))):=
 zn (pat:=fun p:Ent×Ent=>[.agg (entV p.1),.agg (entV p.2)]) (fun x y h=>by simp only [List.cons.injEq,V.agg.injEq,and_true]at h;exact Prod.ext (zf6 h.1) (zf6 h.2)) (((a,b),n),((c,d),m)) ⟨h1,h2⟩
theorem zi2:∀ args r,cOrder args=some r→PCall Tryz.prog 50 args r:=zo fun p hp=>order_ok p.1 p.2 hp.1 hp.2
attribute [go_sem] zzX
def rlQ(b:Bool):Str→Bool:=match b with|true=>zeF|false=>nameB
def zaG(l:List Ent):Prop:=∀ e∈l,zfN e.1
theorem rlQ_eq(b:Bool)(s:Str):rlQ b s=(b&&decide (s=[])||nameB s):=by
 cases b
 ·rfl
 ·unfold rlQ zeF;cases s<;>rfl
theorem zyw(b:Bool)(e:Ent):(!nameB e.1.1&& !(b&&decide (e.1.1=[]))|| !nameB e.1.2&& !(b&&decide (e.1.2=[]))||decide (e.2<1)||decide (1000000<e.2))= !zcH (rlQ b) e:=by unfold zcH;rw [rlQ_eq,rlQ_eq];generalize nameB e.1.1=x;generalize nameB e.1.2=y;generalize decide (e.1.1=[])=u;generalize decide (e.1.2=[])=v;generalize decide (e.2<1)=p;generalize decide (1000000<e.2)=r;cases b<;>cases x<;>cases y<;>cases u<;>cases v<;>cases p<;>cases r<;>rfl
set_option maxHeartbeats 4000000 in
set_option maxRecDepth 100000 in
theorem list_ok(l:List Ent)(b:Bool)(hl:l.length≤1000000)(hs:zaG l):PCall Tryz.prog 25 [.fs (cnts l) l.length,.bool b] (.ret (.bool (vB (rlQ b) l))):=by
 refine PCall.walk (rs:=[.tmp 4]) [0,1,4,5,8,12,87] [] mixed (zf zi0 (zf zi2 zh)) (zg) call25 Tryz.func25 rfl Tryz.ntmps25 rfl (by kernel_rfl) (by simp) (by simp [push_cast]) ?_;simp only [go_sem];refine AXc.introP (fun h1=>?_) (fun h1=>?_)
 ·simp only [go_sem];have:¬l.length≤30000:=by omega
  simp [vB,this]
 have h1':l.length≤30000:=by omega
 simp only [go_sem];refine AXs.loop mixed (zf zi0 (zf zi2 zh)) (zg) (fun i:Nat=>[(0,.fs (cnts l) l.length),(1,.bool b),(5,.int .i64 i)]) (fun _=>⟨[],0⟩) (fun i=>i≤l.length∧(∀ j,j<i→zcH (rlQ b) (nthE l j)=true)∧∀ j,j+1<i→lt (nthE l j).1 (nthE l (j+1)).1=true) (fun i=>l.length - i) 0 (by kernel_rfl)
  ⟨Nat.zero_le _,fun j hj=>by omega,fun j hj=>by omega⟩ (Sub.of0 [] rfl rfl ?_ ?_) ?_
 ·simp only [go_sem]
 ·simp only [go_sem]
 rintro i ⟨h2,h3,h4⟩;simp only [go_sem];refine AXc.introP (fun h5=>?_) (fun h5=>?_)
 ·have hi:i<l.length:=by omega
  have a1:=zci l i hi;have s1:zfN ((nthE l i).1.1,(nthE l i).1.2):=hs _ (zcq hi);rcases Nat.eq_zero_or_pos i with h0|h0
  ·subst h0;simp (config:={ maxSteps:=2000000 }) (disch:=first|assumption|(push_cast<;>omega)|omega) only [go_sem,a1];repeat' (first|refine And.intro ?_ ?_|intro _);rotate_right 1
   ·rw [zyw];cases hg:zcH (rlQ b) (nthE l 0)with
    |false=>
     simp (disch:=first|assumption|(push_cast<;>omega)|omega) only [go_sem];have:=zvB (p:=zcH (rlQ b)) (l:=l) (i:=0) (by omega) hg;simp [vB,this]
    |true=>
     simp (disch:=first|assumption|(push_cast<;>omega)|omega) only [go_sem];refine zi 1 ⟨by omega,fun j hj=>?_,fun j hj=>by omega⟩ (by omega) (Sub.of0 [] rfl rfl ?_ ?_)
     ·obtain rfl:j=0:=by omega
      exact hg
     ·simp only [go_sem]
     ·simp only [go_sem]
   all_goals first|omega|assumption|(cases hx:nameB (nthE l 0).1.1<;>cases hy:nameB (nthE l 0).1.2<;>simp_all)
  ·have a2:=zci l (i - 1) (by omega);have s2:zfN ((nthE l (i - 1)).1.1,(nthE l (i - 1)).1.2):=hs _ (zcq (by omega));simp (config:={ maxSteps:=2000000 }) (disch:=first|assumption|(push_cast<;>omega)|omega) only [go_sem,a1,a2];repeat' (first|refine And.intro ?_ ?_|intro _);rotate_right 1
   ·rw [zyw];have e0:decide (0<(i:Int))=true:=decide_eq_true (by omega);rw [e0];cases hg:zcH (rlQ b) (nthE l i)with
    |false=>
     simp (disch:=first|assumption|(push_cast<;>omega)|omega) only [go_sem];have:=zvB (p:=zcH (rlQ b)) (l:=l) (i:=i) (by omega) hg;simp [vB,this]
    |true=>
     simp (disch:=first|assumption|(push_cast<;>omega)|omega) only [go_sem];refine AXc.introP (fun h6=>?_) (fun h6=>?_)
     ·simp (disch:=first|assumption|(push_cast<;>omega)|omega) only [go_sem];have:=incB_f (l:=l) (i:=i - 1) (by omega) (by rw [show i - 1+1=i by omega];exact(zy8 _ _).1 h6);simp [vB,this]
     have h6':¬0≤cmpK (nthE l (i - 1)).1 (nthE l i).1:=h6;have h7:lt (nthE l (i - 1)).1 (nthE l i).1=true:=(zmc _ _).1 (by omega);simp (disch:=first|assumption|(push_cast<;>omega)|omega) only [go_sem];refine zi (i+1) ⟨by omega,fun j hj=>?_,fun j hj=>?_⟩ (by omega) (Sub.of0 [] rfl rfl ?_ ?_)
     ·by_cases hji:j<i
      ·exact h3 j hji
      ·obtain rfl:j=i:=by omega
       exact hg
     ·by_cases hji:j+1<i
      ·exact h4 j hji
      ·have:j=i - 1:=by omega
       subst this;rw [show i - 1+1=i by omega];exact h7
     ·simp only [go_sem];simp
     ·simp only [go_sem]
   all_goals first|omega|assumption|(cases hx:nameB (nthE l i).1.1<;>cases hy:nameB (nthE l i).1.2<;>simp_all)
 ·simp only [go_sem];refine AXa.go mixed (zf zi0 (zf zi2 zh)) (zg) (by kernel_rfl) ?_;simp (disch:=first|assumption|(push_cast<;>omega)|omega) only [go_sem];have k1:=zvA (p:=zcH (rlQ b)) (l:=l) fun j hj=>h3 j (by omega);have k2:=incB_t (l:=l) fun j hj=>h4 j (by omega);simp [vB,h1',k1,k2]
noncomputable def cList:List V→Option PR:=zH (fun p:List Ent×Bool=>[.fs (cnts p.1) p.1.length,.bool p.2]) (fun p=>p.1.length≤1000000∧zaG p.1) fun p=>.ret (.bool (vB (rlQ p.2) p.1))
theorem cList_eq(l:List Ent)(n:Nat)(b:Bool)(hn:n=l.length)(hl:l.length≤1000000)(hs:zaG l):cList [.fs (cnts l) n,.bool b]=some (.ret (.bool (vB (rlQ b) l))):=by subst hn;exact zn (pat:=fun p:List Ent×Bool=>[.fs (cnts p.1) p.1.length,.bool p.2]) (fun x y h=>by simp only [List.cons.injEq,V.fs.injEq,V.bool.injEq,and_true]at h;exact Prod.ext (zbp h.1.1) h.2) (l,b) ⟨hl,hs⟩
theorem cList_ok:∀ args r,cList args=some r→PCall Tryz.prog 25 args r:=zo fun p hp=>list_ok p.1 p.2 hp.1 hp.2
attribute [go_sem] cList_eq
theorem zwq(a b:List Ent)(ha:a.length≤1000000)(hb:b.length≤1000000)(sa:zaG a)(sb:zaG b):PCall Tryz.prog 10 [.agg [.fs (cnts a) a.length,.fs (cnts b) b.length]] (.ret (.bool (zct a b))):=by
 refine PCall.walk (rs:=[.tmp 2]) [0,1,2] [] mixed (zf cList_ok zh) (zg) call10 Tryz.func10 rfl Tryz.ntmps10 rfl (by kernel_rfl) (by simp) (by simp [push_cast]) ?_;simp (disch:=first|assumption|(push_cast<;>omega)|omega) only [go_sem];rfl
noncomputable def zzH:List V→Option PR:=zH (fun p:List Ent×List Ent=>[.agg [.fs (cnts p.1) p.1.length,.fs (cnts p.2) p.2.length]]) (fun p=>(p.1.length≤1000000∧zaG p.1)∧p.2.length≤1000000∧zaG p.2) fun p=>.ret (.bool (zct p.1 p.2))
theorem zva(a b:List Ent)(n m:Nat)(hn:n=a.length)(hm:m=b.length)(ha:a.length≤1000000)(hb:b.length≤1000000)(sa:zaG a)(sb:zaG b):zzH [.agg [.fs (cnts a) n,.fs (cnts b) m]]=some (.ret (.bool (zct a b))):=by subst hn hm;exact zn (pat:=fun p:List Ent×List Ent=>[.agg [.fs (cnts p.1) p.1.length,.fs (cnts p.2) p.2.length]]) (fun x y h=>by simp only [List.cons.injEq,V.agg.injEq,V.fs.injEq,and_true]at h;exact Prod.ext (zbp h.1.1) (zbp h.2.1)) (a,b) ⟨⟨ha,sa⟩,hb,sb⟩
theorem zu9:∀ args r,zzH args=some r→PCall Tryz.prog 10 args r:=zo fun p hp=>zwq p.1 p.2 hp.1.1 hp.2.1 hp.1.2 hp.2.2
attribute [go_sem] zva
end Go.Proofs
