/- More of this seat's types and functions: closed facts (laid by program). -/
import Derived.Test.YthbimeikbkjnkaaGreatDoorT7
set_option linter.all false
set_option maxHeartbeats 16000000
set_option maxRecDepth 100000
namespace Go.Proofs
open Tryz Go.Ab
attribute [go_sem] Tryz.underlying118 Tryz.underlying156
theorem call52:zk prog 52:=fun a w=>by kernel_rfl
theorem call77:zk prog 77:=fun a w=>by kernel_rfl
theorem call78:zk prog 78:=fun a w=>by kernel_rfl
theorem call80:zk prog 80:=fun a w=>by kernel_rfl
theorem call81:zk prog 81:=fun a w=>by kernel_rfl
theorem call121:zk prog 121:=fun a w=>by kernel_rfl
theorem zAa:zk prog 122:=fun a w=>by kernel_rfl
theorem call123:zk prog 123:=fun a w=>by kernel_rfl
theorem call125:zk prog 125:=fun a w=>by kernel_rfl
theorem call126:zk prog 126:=fun a w=>by kernel_rfl
theorem call127:zk prog 127:=fun a w=>by kernel_rfl
theorem call167:zk prog 167:=fun a w=>by kernel_rfl
theorem call168:zk prog 168:=fun a w=>by kernel_rfl
theorem call171:zk prog 171:=fun a w=>by kernel_rfl
theorem call189:zk prog 189:=fun a w=>by kernel_rfl
theorem call195:zk prog 195:=fun a w=>by kernel_rfl
end Go.Proofs

namespace Go.Proofs
open Tryz Go.Ab Go.Cnt Go.Pl Go.Tg
theorem rkind_ok(k:Int):PCall prog 77 [.int .i64 k] (.ret (.bool (ze5 k))):=by refine PCall.wD (rs:=[.tmp 2]) [0,2] [] mixed (zh) (zg) call77 func77 rfl ntmps77 rfl ?_;simp only [go_sem];rfl
noncomputable def cRKind:List V→Option PR:=zu (fun k:Int=>[.int .i64 k]) (fun _=>True) fun k=>.ret (.bool (ze5 k))
@[go_sem] theorem cRKind_eq(k:Int):cRKind [.int .i64 k]=some (.ret (.bool (ze5 k))):=zo (pat:=fun k:Int=>[.int .i64 k]) (fun x y h=>by simpa using h) k trivial
theorem ziq:∀ args r,cRKind args=some r→PCall prog 77 args r:=zn fun k _=>rkind_ok k
theorem ztj(k:Int)(a:Str)(la:a.length≤1000000000):PCall prog 121 [.int .i64 k,.str a] (.ret (.bool (zaa k a))):=by
 have hΓ:=zf ziq (zf zir (zf zis zh));obtain⟨R,hR⟩:∃ R,R=zaa k a:=⟨_,rfl⟩;rw [←hR];unfold zaa at hR;refine PCall.wD (rs:=[.tmp 4]) [0,1,4,7,13] [] mixed (hΓ) (zg) call121 func121 rfl ntmps121 rfl ?_;simp (disch:=first|exact Zq|fail) only [go_sem];cases hk:ze5 k with
 |false=>
  rw [hk,Y7]at hR;rw [hR];simp (disch:=first|exact Zq|fail) only [go_sem]
 |true=>
  rw [hk,Yar]at hR;simp (disch:=first|exact Zq|fail) only [go_sem];by_cases h1:a=infS∨a=minS
  ·rw [Yf h1]at hR;have e:(decide (a=infS)||decide (a=minS))=true:=by simpa using h1
   have e':(decide (a=[105,110,102])||decide (a=[45,105,110,102]))=true:=e;rw [e',hR];simp (disch:=first|exact Zq|fail) only [go_sem];rfl
  ·rw [Yd h1]at hR;have e:(decide (a=infS)||decide (a=minS))=false:=by simpa using h1
   have e':(decide (a=[105,110,102])||decide (a=[45,105,110,102]))=false:=e;rw [e',hR];simp (disch:=first|exact Zq|fail) only [go_sem];exact fun h=>⟨h,fun h'=>by rw [h,h'];rfl⟩
noncomputable def zr1:List V→Option PR:=zu (fun p:Int×Str=>[.int .i64 p.1,.str p.2]) (fun p=>p.2.length≤1000000000) fun p=>.ret (.bool (zaa p.1 p.2))
@[go_sem] theorem cRSValid_eq(k:Int)(a:Str)(la:a.length≤1000000000):zr1 [.int .i64 k,.str a]=some (.ret (.bool (zaa k a))):=zo (pat:=fun p:Int×Str=>[.int .i64 p.1,.str p.2]) (fun x y h=>by simp at h;exact YT h.1 h.2) (k,a) la
theorem zdQ:∀ args r,zr1 args=some r→PCall prog 121 args r:=zn fun p h=>ztj p.1 p.2 h
theorem ztf(k:Int)(a:Str)(la:a.length≤1000000000):PCall prog 78 [.int .i64 k,.str a] (.ret (.bool (zaG k a))):=by
 have hΓ:=zf zdQ zh;refine PCall.wD (rs:=[.tmp 4]) [0,1,4] [] mixed (hΓ) (zg) call78 func78 rfl ntmps78 rfl ?_;simp (disch:=first|exact Zq|fail) only [go_sem];unfold zaG;simp only [Ycw];exact⟨fun h=>⟨h,fun h'=>by rw [h,h'];rfl⟩,rfl⟩
noncomputable def zrY:List V→Option PR:=zu (fun p:Int×Str=>[.int .i64 p.1,.str p.2]) (fun p=>p.2.length≤1000000000) fun p=>.ret (.bool (zaG p.1 p.2))
@[go_sem] theorem cRWeight_eq(k:Int)(a:Str)(la:a.length≤1000000000):zrY [.int .i64 k,.str a]=some (.ret (.bool (zaG k a))):=zo (pat:=fun p:Int×Str=>[.int .i64 p.1,.str p.2]) (fun x y h=>by simp at h;exact YT h.1 h.2) (k,a) la
theorem zqg:∀ args r,zrY args=some r→PCall prog 78 args r:=zn fun p h=>ztf p.1 p.2 h
theorem rzero_ok(k:Int):PCall prog 167 [.int .i64 k] (.ret (.str (zaS k))):=by
 have hΓ:=zf ziq zh;obtain⟨R,hR⟩:∃ R,R=zaS k:=⟨_,rfl⟩;rw [←hR];unfold zaS at hR;refine PCall.wD (rs:=[.tmp 2]) [0,2,5,7] [] mixed (hΓ) (zg) call167 func167 rfl ntmps167 rfl ?_;simp (disch:=first|exact Zq|fail) only [go_sem];cases hk:ze5 k with
 |false=>
  rw [hk,Yf rfl]at hR;rw [hR];simp (disch:=first|exact Zq|fail) only [go_sem]
 |true=>
  rw [hk,Yd (by simp)]at hR;simp (disch:=first|exact Zq|fail) only [go_sem];refine AXc.introP (fun h1=>?_) (fun h1=>?_)
  ·rw [Yf h1]at hR;rw [hR];simp (disch:=first|exact Zq|fail) only [go_sem];rfl
  ·rw [Yd h1]at hR;rw [hR];simp (disch:=first|exact Zq|fail) only [go_sem]
noncomputable def cRZero:List V→Option PR:=zu (fun k:Int=>[.int .i64 k]) (fun _=>True) fun k=>.ret (.str (zaS k))
@[go_sem] theorem cRZero_eq(k:Int):cRZero [.int .i64 k]=some (.ret (.str (zaS k))):=zo (pat:=fun k:Int=>[.int .i64 k]) (fun x y h=>by simpa using h) k trivial
theorem zel:∀ args r,cRZero args=some r→PCall prog 167 args r:=zn fun k _=>rzero_ok k
theorem zmz(a b:Str)(la:a.length≤1000000000)(lb:b.length≤1000000000):PCall prog 189 [.str a,.str b] (.ret (.int .i64 (zbS a b))):=by
 have hΓ:=zf zis zh;obtain⟨R,hR⟩:∃ R,R=zbS a b:=⟨_,rfl⟩;rw [←hR];unfold zbS at hR;refine PCall.wD (rs:=[.tmp 4]) [0,1,4,5,9,16] [] mixed (hΓ) (zg) call189 func189 rfl ntmps189 rfl ?_;simp (disch:=first|exact Zq|fail) only [go_sem];refine AXc.introP (fun h1=>?_) (fun h1=>?_)
 ·rw [Yf h1]at hR;rw [hR];simp (disch:=first|exact Zq|fail) only [go_sem]
 rw [Yd h1]at hR;simp (disch:=first|exact Zq|fail) only [go_sem];by_cases h2:a=minS∨b=infS
 ·rw [Yf h2]at hR;have e':(decide (a=[45,105,110,102])||decide (b=[105,110,102]))=true:=(by simpa using h2:(decide (a=minS)||decide (b=infS))=true);rw [e',hR];simp (disch:=first|exact Zq|fail) only [go_sem]
 rw [Yd h2]at hR;have e':(decide (a=[45,105,110,102])||decide (b=[105,110,102]))=false:=(by simpa using h2:(decide (a=minS)||decide (b=infS))=false);rw [e'];simp (disch:=first|exact Zq|fail) only [go_sem];by_cases h3:a=infS∨b=minS
 ·rw [Yf h3]at hR;have e':(decide (a=[105,110,102])||decide (b=[45,105,110,102]))=true:=(by simpa using h3:(decide (a=infS)||decide (b=minS))=true);rw [e',hR];simp (disch:=first|exact Zq|fail) only [go_sem]
 rw [Yd h3]at hR;have e':(decide (a=[105,110,102])||decide (b=[45,105,110,102]))=false:=(by simpa using h3:(decide (a=infS)||decide (b=minS))=false);rw [e',hR];simp (disch:=first|exact Zq|fail) only [go_sem]
noncomputable def zAG:List V→Option PR:=zu (fun p:Str×Str=>[.str p.1,.str p.2]) (fun p=>p.1.length≤1000000000∧p.2.length≤1000000000) fun p=>.ret (.int .i64 (zbS p.1 p.2))
@[go_sem] theorem cRComp4_eq(a b:Str)(la:a.length≤1000000000)(lb:b.length≤1000000000):zAG [.str a,.str b]=some (.ret (.int .i64 (zbS a b))):=zo (pat:=fun p:Str×Str=>[.str p.1,.str p.2]) (fun x y h=>by simp at h;exact YT h.1 h.2) (a,b) ⟨la,lb⟩
theorem zvD:∀ args r,zAG args=some r→PCall prog 189 args r:=zn fun p h=>zmz p.1 p.2 h.1 h.2
theorem ztD(k:Int)(a b:Str)(la:a.length≤1000000000)(lb:b.length≤1000000000):PCall prog 168 [.int .i64 k,.str a,.str b] (.ret (.int .i64 (zcb k a b))):=by
 have hΓ:=zf zdQ (zf zvD zh);obtain⟨R,hR⟩:∃ R,R=zcb k a b:=⟨_,rfl⟩;rw [←hR];unfold zcb at hR;refine PCall.wD (rs:=[.tmp 6]) [0,1,2,6,16,18] [] mixed (hΓ) (zg) call168 func168 rfl ntmps168 rfl ?_;simp (disch:=first|exact Zq|fail) only [go_sem];have e:(!zaa k a|| !zaa k b)= !(zaa k a&&zaa k b):=by rw [YbY]
 rw [e];cases hv:(zaa k a&&zaa k b)with
 |false=>
  rw [hv,Yf rfl]at hR;rw [hR];simp (disch:=first|exact Zq|fail) only [go_sem]
 |true=>
  rw [hv,Yd (by simp)]at hR;simp (disch:=first|exact Zq|fail) only [go_sem];refine AXc.introP (fun h1=>?_) (fun h1=>?_)
  ·rw [Yf h1]at hR;rw [hR];simp (disch:=first|exact Zq|fail) only [go_sem]
  ·rw [Yd h1]at hR;rw [hR];simp (disch:=first|exact Zq|fail) only [go_sem]
def str3(p:Int×Str×Str):List V:=[.int .i64 p.1,.str p.2.1,.str p.2.2]
theorem zki {x y:Int×Str×Str}(h:str3 x=str3 y):x=y:=by obtain⟨a,b,c⟩:=x;obtain⟨d,e,f⟩:=y;simp only [str3,Yu,V.int.injEq,V.str.injEq,Yam,Yan]at h;obtain⟨rfl,rfl,rfl⟩:=h;rfl
noncomputable def zr7:List V→Option PR:=zu str3 (fun p=>p.2.1.length≤1000000000∧p.2.2.length≤1000000000) fun p=>.ret (.int .i64 (zcb p.1 p.2.1 p.2.2))
@[go_sem] theorem cRBetter_eq(k:Int)(a b:Str)(la:a.length≤1000000000)(lb:b.length≤1000000000):zr7 [.int .i64 k,.str a,.str b]=some (.ret (.int .i64 (zcb k a b))):=zo (pat:=str3) (fun x y h=>zki h) (k,a,b) ⟨la,lb⟩
theorem zqo:∀ args r,zr7 args=some r→PCall prog 168 args r:=zn fun p h=>ztD p.1 p.2.1 p.2.2 h.1 h.2
theorem zs6 {k:Int}{a b:Str}(la:a.length≤1000)(lb:b.length≤1000):(zb2 k a b).1.length≤1000:=by
 unfold zb2;split
 ·simp
 split
 ·split
  ·exact lb
  ·exact la
 split
 ·decide
 ·exact zrb a b
theorem zfY(k:Int):(zaS k).length≤1000:=by
 unfold zaS;split
 ·simp
 split<;>decide
theorem zhB(k:Int)(a b:Str):(zaQ k a b).1.length≤1000:=by
 unfold zaQ;split
 ·simp
 split
 ·exact zfY k
 split
 ·decide
 split
 ·decide
 split
 ·exact zrb a b
 ·exact zgY a b
theorem zw6(k:Int)(a b:Str)(la:a.length≤1000000000)(lb:b.length≤1000000000):PCall prog 123 [.int .i64 k,.str a,.str b] (.ret (.tup [.str (zb2 k a b).1,.int .i64 (zb2 k a b).2])):=by
 have hΓ:=zf zdQ (zf zqo (zf znX zh));have r1:=zsc a b la lb;obtain⟨R,hR⟩:∃ R,R=zb2 k a b:=⟨_,rfl⟩;rw [←hR];unfold zb2 at hR;refine PCall.wD (rs:=[.tmp 6,.tmp 7]) [0,1,2,6,7,17,19,24,32] [] mixed (hΓ) (zg) call123 func123 rfl ntmps123 rfl ?_;simp (disch:=first|exact Zq|fail) only [go_sem];have e:(!zaa k a|| !zaa k b)= !(zaa k a&&zaa k b):=by rw [YbY]
 rw [e];cases hv:(zaa k a&&zaa k b)with
 |false=>
  rw [hv,Yf rfl]at hR;rw [hR];simp (disch:=first|exact Zq|fail) only [go_sem]
 |true=>
  rw [hv,Yd (by simp)]at hR;simp (disch:=first|exact Zq|fail) only [go_sem];refine AXc.introN (fun h1=>?_) (fun h1=>?_)
  ·rw [Yf h1]at hR;simp (disch:=first|exact Zq|fail) only [go_sem];refine AXc.introP (fun h2=>?_) (fun h2=>?_)
   ·rw [Yf h2]at hR;rw [hR];simp (disch:=first|exact Zq|fail) only [go_sem]
   ·rw [Yd h2]at hR;rw [hR];simp (disch:=first|exact Zq|fail) only [go_sem]
  ·rw [Yd (fun k=>k h1)]at hR;simp (disch:=first|exact Zq|fail) only [go_sem];by_cases h3:a=infS∨b=infS
   ·rw [Yf h3]at hR;have e':(decide (a=[105,110,102])||decide (b=[105,110,102]))=true:=(by simpa using h3:(decide (a=infS)||decide (b=infS))=true);rw [e',hR];simp (disch:=first|exact Zq|fail) only [go_sem];rfl
   ·rw [Yd h3]at hR;have e':(decide (a=[105,110,102])||decide (b=[105,110,102]))=false:=(by simpa using h3:(decide (a=infS)||decide (b=infS))=false);rw [e',hR];simp (disch:=first|exact Zq|fail) only [go_sem,r1]
noncomputable def cRPlus:List V→Option PR:=zu str3 (fun p=>p.2.1.length≤1000000000∧p.2.2.length≤1000000000) fun p=>.ret (.tup [.str (zb2 p.1 p.2.1 p.2.2).1,.int .i64 (zb2 p.1 p.2.1 p.2.2).2])
theorem zAA(k:Int)(a b:Str)(la:a.length≤1000000000)(lb:b.length≤1000000000):cRPlus [.int .i64 k,.str a,.str b]=some (.ret (.tup [.str (zb2 k a b).1,.int .i64 (zb2 k a b).2])):=zo (pat:=str3) (fun x y h=>zki h) (k,a,b) ⟨la,lb⟩
theorem zAz:∀ args r,cRPlus args=some r→PCall prog 123 args r:=zn fun p h=>zw6 p.1 p.2.1 p.2.2 h.1 h.2
theorem ztk(k:Int)(a b:Str)(la:a.length≤1000000000)(lb:b.length≤1000000000):PCall prog 195 [.int .i64 k,.str a,.str b] (.ret (.tup [.str (zaQ k a b).1,.int .i64 (zaQ k a b).2])):=by
 have hΓ:=zf zdQ (zf zel (zf znX (zf znW zh)));have r1:=zsc a b la lb;have r2:=zsb a b la lb;obtain⟨R,hR⟩:∃ R,R=zaQ k a b:=⟨_,rfl⟩;rw [←hR];unfold zaQ at hR;refine PCall.wD (rs:=[.tmp 6,.tmp 7]) [0,1,2,6,7,8,18,21,31,38,45] [] mixed (hΓ) (zg) call195 func195 rfl ntmps195 rfl ?_;simp (disch:=first|exact Zq|fail) only [go_sem];have e:(!zaa k a|| !zaa k b)= !(zaa k a&&zaa k b):=by rw [YbY]
 rw [e];cases hv:(zaa k a&&zaa k b)with
 |false=>
  rw [hv,Yf rfl]at hR;rw [hR];simp (disch:=first|exact Zq|fail) only [go_sem]
 |true=>
  rw [hv,Yd (by simp)]at hR;simp (disch:=first|exact Zq|fail) only [go_sem];by_cases h2:a=zaS k∨b=zaS k
  ·rw [Yf h2]at hR;have e':(decide (a=zaS k)||decide (b=zaS k))=true:=(by simpa using h2:(decide (a=zaS k)||decide (b=zaS k))=true);rw [e',hR];simp (disch:=first|exact Zq|fail) only [go_sem];skip
  rw [Yd h2]at hR;have e':(decide (a=zaS k)||decide (b=zaS k))=false:=(by simpa using h2:(decide (a=zaS k)||decide (b=zaS k))=false);rw [e'];simp (disch:=first|exact Zq|fail) only [go_sem];clear e';by_cases h3:a=infS∨b=infS
  ·rw [Yf h3]at hR;have e':(decide (a=[105,110,102])||decide (b=[105,110,102]))=true:=(by simpa using h3:(decide (a=infS)||decide (b=infS))=true);rw [e',hR];simp (disch:=first|exact Zq|fail) only [go_sem];rfl
  rw [Yd h3]at hR;have e':(decide (a=[105,110,102])||decide (b=[105,110,102]))=false:=(by simpa using h3:(decide (a=infS)||decide (b=infS))=false);rw [e'];simp (disch:=first|exact Zq|fail) only [go_sem];clear e';by_cases h4:a=minS∨b=minS
  ·rw [Yf h4]at hR;have e':(decide (a=[45,105,110,102])||decide (b=[45,105,110,102]))=true:=(by simpa using h4:(decide (a=minS)||decide (b=minS))=true);rw [e',hR];simp (disch:=first|exact Zq|fail) only [go_sem];rfl
  rw [Yd h4]at hR;have e':(decide (a=[45,105,110,102])||decide (b=[45,105,110,102]))=false:=(by simpa using h4:(decide (a=minS)||decide (b=minS))=false);rw [e'];simp (disch:=first|exact Zq|fail) only [go_sem];clear e';refine AXc.introP (fun h5=>?_) (fun h5=>?_)
  ·rw [Yf h5]at hR;rw [hR];simp (disch:=first|exact Zq|fail) only [go_sem,r1]
  ·rw [Yd h5]at hR;rw [hR];simp (disch:=first|exact Zq|fail) only [go_sem,r2]
noncomputable def zr2:List V→Option PR:=zu str3 (fun p=>p.2.1.length≤1000000000∧p.2.2.length≤1000000000) fun p=>.ret (.tup [.str (zaQ p.1 p.2.1 p.2.2).1,.int .i64 (zaQ p.1 p.2.1 p.2.2).2])
theorem zql(k:Int)(a b:Str)(la:a.length≤1000000000)(lb:b.length≤1000000000):zr2 [.int .i64 k,.str a,.str b]=some (.ret (.tup [.str (zaQ k a b).1,.int .i64 (zaQ k a b).2])):=zo (pat:=str3) (fun x y h=>zki h) (k,a,b) ⟨la,lb⟩
theorem zqk:∀ args r,zr2 args=some r→PCall prog 195 args r:=zn fun p h=>ztk p.1 p.2.1 p.2.2 h.1 h.2
theorem allI_t {p:Int→Bool}{l:List Int}(h:∀ j,j<l.length→p (l.getD j 0)=true):l.all p=true:=by refine Yg.2 fun x hx=>?_;obtain⟨i,hi,rfl⟩:=Yaj.1 hx;have:=h i hi;rwa [Ya,Yb hi]at this
theorem allI_f {p:Int→Bool}{l:List Int}{i:Nat}(hi:i<l.length)(h:p (l.getD i 0)=false):l.all p=false:=by
 cases e:l.all p with
 |false=>rfl
 |true=>rw [Ya,Yb hi]at h;have:=Yg.1 e _ (YZ hi);simp only [YbT]at h;rw [h]at this;cases this
theorem zw4(x:List Int)(hx:x.length≤1000000000000000):PCall prog 21 [.fs (ints .i64 x) x.length] (.ret (.bool (zdY x))):=by
 refine PCall.wD (rs:=[.tmp 2]) [0,2,3,6,10,24] [] mixed (zh) (zg) call21 func21 rfl ntmps21 rfl ?_;simp (disch:=first|exact Zq|fail) only [go_sem];refine AXc.introP (fun h0=>?_) (fun h0=>?_)
 ·have e:zdY x=false:=by unfold zdY;rw [Yy (by omega),Y7]
  rw [e];simp (disch:=first|exact Zq|fail) only [go_sem]
 have hw:zdY x=x.all symB:=by unfold zdY;rw [YB (by omega),Yar]
 rw [hw];simp (disch:=first|exact Zq|fail) only [go_sem];refine AXs.loop mixed (zh) (zg) (fun i:Nat=>[(0,.fs (ints .i64 x) x.length),(3,.int .i64 i)]) (fun _=>⟨[],0⟩) (fun i=>i≤x.length∧∀ j,j<i→symB (x.getD j 0)=true) (fun i=>x.length - i) 0 (by kernel_rfl) ⟨Yk _,fun j hj=>by omega⟩ (Sub.of0 [] rfl rfl ?_ ?_) ?_
 ·simp only [go_sem]
 ·simp only [go_sem]
 rintro i ⟨h1,h2⟩;simp (disch:=first|exact Zq|fail) only [go_sem];refine AXc.introP (fun h3=>?_) (fun h3=>?_)
 ·have hi:i<x.length:=by omega
  simp (disch:=first|exact Zq|fail) only [go_sem];try (repeat refine sdC ?_)
  have hb:(decide (x.getD i 0<1)||decide (500<x.getD i 0))= !symB (x.getD i 0):=by unfold symB;rw [YaJ];simp only [Yae,Yaa,Yh,YbJ,YS];omega
  rw [hb];cases hn:symB (x.getD i 0)with
  |false=>
   rw [allI_f hi hn];simp (disch:=first|exact Zq|fail) only [go_sem]
  |true=>
   simp (disch:=first|exact Zq|fail) only [go_sem];refine zi (i+1) ⟨by omega,fun j hj=>?_⟩ (by omega) (Sub.of0 [] rfl rfl ?_ ?_)
   ·by_cases hji:j<i
    ·exact h2 j hji
    ·obtain rfl:j=i:=by omega
     exact hn
   ·simp only [go_sem];simp
   ·simp only [go_sem]
 ·obtain rfl:i=x.length:=by omega
  rw [allI_t h2];simp only [go_sem];refine AXa.go mixed (zh) (zg) (by kernel_rfl) ?_;simp only [go_sem]
noncomputable def zAu:List V→Option PR:=zu (fun l:List Int=>[.fs (ints .i64 l) l.length]) (fun l=>l.length≤1000000000000000) fun l=>.ret (.bool (zdY l))
theorem zgk(l:List Int)(hl:l.length≤1000000000000000):zAu [.fs (ints .i64 l) l.length]=some (.ret (.bool (zdY l))):=
 zo (pat:=fun l:List Int=>[.fs (ints .i64 l) l.length]) (fun x y h=>by simp at h;exact zlu h.1) l hl
theorem zgj:∀ args r,zAu args=some r→PCall prog 21 args r:=zn fun l h=>zw4 l h
structure FitM(m:Mach):Prop where
 q:m.q.length≤1000000000
 a:∀ s∈m.q,s.a.length≤1000000000
 l:m.l.length≤1000000000
 f:∀ s∈m.q,s.f.length≤1000000000
 w:∀ s∈m.q,∀ a∈s.a,a.w.length≤1000000000
def sumA(q:List Sta)(i:Nat):Nat:=arcN (q.take i)
theorem zhr(q:List Sta)(i:Nat)(h:i<q.length):sumA q (i+1)=sumA q i+(nthQ q i).a.length:=by unfold sumA arcN;rw [staR.take_nth q i h,Yau,List.sum_append];simp [nthQ]
theorem zl9(q:List Sta){i j:Nat}(h:i≤j)(hj:j≤q.length):sumA q i≤sumA q j:=by
 induction j with
 |zero=>rw [show i=0 by omega];exact Ye _
 |succ j ih=>
  rcases YaG j i with hl|hl
  ·rw [show i=j+1 by omega];exact Ye _
  ·rw [zhr q j (by omega)];exact Yn (ih hl (by omega)) (by omega)
theorem zkh(q:List Sta):sumA q q.length=arcN q:=by unfold sumA;rw [YQ]
theorem zth(m:Mach)(hm:FitM m):PCall prog 50 [zah m] (.ret (.bool (ze0 m))):=by
 have hΓ:=zf ziq (zf zqg zh);obtain⟨R,hR⟩:∃ R,R=ze0 m:=⟨_,rfl⟩;rw [←hR];obtain⟨k,s,l,q⟩:=m;obtain⟨m1,m2,m3,m4,m5⟩:=hm;dsimp only at m1 m2 m3 m4 m5;unfold ze0 at hR;dsimp only at hR;refine PCall.walk (rs:=[.tmp 2]) [0,1,2,3,4,5,6,7,44,49,76,81,127] [42] mixed (hΓ) (zg) call50 func50 rfl ntmps50 rfl (by kernel_rfl) (by simp) (by simp [push_cast,zbm]) ?_;simp (disch:=first|exact Zq|fail) only [go_sem,zah];have hb:(!ze5 k||decide ((q.length:Int)<1)||decide (3000<(q.length:Int))||decide (s<0)||decide ((q.length:Int)≤s)|| !zaG k l)=
  !(ze5 k&&decide (1≤q.length)&&decide (q.length≤3000)&&decide (0≤s)&&decide (s<q.length)&&zaG k l):=by
  simp only [YbY]
  congr 1
  congr 1
  ·congr 1
   ·congr 1
    ·congr 1
     rw [←Ycw];exact Ya3.2 (by omega)
    ·rw [←Ycw];exact Ya3.2 (by omega)
   ·rw [←Ycw];exact Ya3.2 (by omega)
  ·rw [←Ycw];exact Ya3.2 (by omega)
 rw [hb];cases hc:(ze5 k&&decide (1≤q.length)&&decide (q.length≤3000)&&decide (0≤s)&&decide (s<q.length)&&zaG k l)with
 |false=>
  rw [hc,Y7,Y7]at hR;rw [hR];simp (disch:=first|exact Zq|fail) only [go_sem]
 |true=>
  rw [hc,Yar]at hR;have hq3:q.length≤3000:=by simp only [Yc,Yh]at hc;omega
  clear hb hc;have hbad:∀ i,i<q.length→staB k q.length (nthQ q i)=false→R=false:=fun i hi h=>by rw [hR,staR.all_f (p:=staB k q.length) hi h,Y7]
  have hlong:∀ i,i≤q.length→30000<sumA q i→R=false:=fun i hi h=>by have:=zl9 q hi (Ye _);rw [zkh]at this;rw [hR,Yy (by omega:¬arcN q≤30000),YaQ]
  have hs:=fun i h=>zhr q i h;simp (disch:=first|exact Zq|fail) only [go_sem];refine AXs.loop mixed (hΓ) (zg) (fun i:Nat=>[(1,.fp [.int .i64 k,.int .i64 s,.str l,.fs (stas q) q.length]),(3,.int .i64 (sumA q i:Nat)),(4,.int .i64 i)]) (fun _=>⟨[],0⟩) (fun i=>i≤q.length∧sumA q i≤30000∧∀ j,j<i→staB k q.length (nthQ q j)=true) (fun i=>q.length - i) 0 (by kernel_rfl) ⟨Yk _,by simp [sumA,arcN],fun j hj=>by omega⟩ (Sub.of0 [] rfl rfl ?_ ?_) ?_
  ·simp only [go_sem];simp [sumA,arcN]
  ·simp only [go_sem]
  rintro i ⟨h1,h2,h3⟩;simp (disch:=first|exact Zq|fail) only [go_sem];refine AXc.introP (fun h4=>?_) (fun h4=>?_);rotate_left
  ·obtain rfl:i=q.length:=by omega
   rw [zkh]at h2;have e:R=true:=by rw [hR,staR.all_t (p:=staB k q.length) h3,YB h2];rfl
   rw [e];simp only [go_sem];refine AXa.go mixed (hΓ) (zg) (by kernel_rfl) ?_;simp only [go_sem]
  have hi:i<q.length:=by omega
  have at1:=zeT q i hi;have hqm:nthQ q i∈q:=staR.nth_mem hi;have hsi:=hs i hi;have ha:=m2 _ hqm;have hf:=m4 _ hqm;have hw:=m5 _ hqm;have hbi:=hbad i hi;have hli:=hlong (i+1) (by omega);generalize hss:nthQ q i=st at at1 hsi ha hf hw hbi;obtain⟨F,A⟩:=st;dsimp only at at1 hsi ha hf hw;simp (disch:=first|exact Zq|fail) only [go_sem,at1];refine⟨by omega,fun h=>⟨h,fun h'=>by rw [h,h'];rfl⟩,?_⟩;by_cases h5:30000<sumA q i+A.length
  ·have e1:decide (30000<(sumA q i:Int)+(A.length:Int))=true:=YB (by omega);rw [hli (by omega),e1,Bool.true_or];simp (disch:=first|exact Zq|fail) only [go_sem]
  have e1:decide (30000<(sumA q i:Int)+(A.length:Int))=false:=Yy (by omega);have e2:(!decide (F=[])&& !zaG k F)= !(decide (F=[])||zaG k F):=by rw [Bool.not_or]
  have hsB:staB k q.length ⟨F,A⟩=((decide (F=[])||zaG k F)&&A.all (arcB k q.length)):=rfl;rw [e1,Ybc,e2];cases h6:(decide (F=[])||zaG k F)with
  |false=>
   rw [hbi (by rw [hsB,h6,Y7])];simp (disch:=first|exact Zq|fail) only [go_sem]
  |true=>
   rw [h6,Yar]at hsB;have hba:∀ j,j<A.length→arcB k q.length (nthA A j)=false→R=false:=fun j hj h=>hbi (by rw [hsB,arcR.all_f (p:=arcB k q.length) hj h]);clear e2 h6;simp (disch:=first|exact Zq|fail) only [go_sem];refine AXs.loop mixed (hΓ) (zg) (fun j:Nat=>[(1,.fp [.int .i64 k,.int .i64 s,.str l,.fs (stas q) q.length]),(3,.int .i64 (sumA q (i+1):Nat)),(4,.int .i64 i),(5,.ptr 0 0),(6,.int .i64 j)]) (fun _=>⟨[(0,.cells [.str F,.fs (arcs A) A.length])],1⟩) (fun j=>j≤A.length∧∀ z,z<j→arcB k q.length (nthA A z)=true) (fun j=>A.length - j) 0 (by kernel_rfl) ⟨Yk _,fun j hj=>by omega⟩ (Sub.of0 [(0,0)] rfl rfl ?_ ?_) ?_
   ·rw [hsi];simp only [go_sem];simp
   ·simp only [go_sem]
   rintro j ⟨k1,k2⟩;simp (disch:=first|exact Zq|fail) only [go_sem];refine AXc.introP (fun k3=>?_) (fun k3=>?_);rotate_left
   ·obtain rfl:j=A.length:=by omega
    simp only [go_sem];refine AXa.go mixed (hΓ) (zg) (by kernel_rfl) ?_;simp (disch:=first|exact Zq|fail) only [go_sem];refine zi (i+1) ⟨by omega,by omega,fun z hz=>?_⟩ (by omega) (Sub.of0 [] rfl rfl ?_ ?_)
    ·by_cases hzi:z<i
     ·exact h3 z hzi
     ·obtain rfl:z=i:=by omega
      rw [hss,hsB];exact arcR.all_t (p:=arcB k q.length) k2
    ·simp only [go_sem];simp
    ·simp only [go_sem]
   have hj:j<A.length:=by omega
   have at2:=zlT A j hj;have ham:nthA A j∈A:=arcR.nth_mem hj;have hwj:=hw _ ham;have hbj:=hba j hj;generalize hxx:nthA A j=x at at2 hwj hbj;obtain⟨xi,xo,xw,xt⟩:=x;dsimp only at at2 hwj;simp (disch:=first|exact Zq|fail) only [go_sem,at2];refine⟨by omega,?_⟩;have e3:(decide (xi<0)||decide (500<xi)||decide (xo<0)||decide (500<xo)||decide (xt<0)||decide ((q.length:Int)≤xt)|| !zaG k xw)= !arcB k q.length ⟨xi,xo,xw,xt⟩:=by unfold arcB;simp only [YbY, ←Ycw,Int.not_le,Int.not_lt]
   rw [e3];cases h7:arcB k q.length ⟨xi,xo,xw,xt⟩with
   |false=>
    rw [hbj h7];simp (disch:=first|exact Zq|fail) only [go_sem]
   |true=>
    simp (disch:=first|exact Zq|fail) only [go_sem];refine zi (j+1) ⟨by omega,fun z hz=>?_⟩ (by omega) (Sub.of0 [(0,0)] rfl rfl ?_ ?_)
    ·by_cases hzi:z<j
     ·exact k2 z hzi
     ·obtain rfl:z=j:=by omega
      rw [hxx];exact h7
    ·simp only [go_sem];simp
    ·simp only [go_sem]
noncomputable def cRMach:List V→Option PR:=zu (fun m:Mach=>[zah m]) FitM fun m=>.ret (.bool (ze0 m))
theorem zio(m:Mach)(h:FitM m):cRMach [zah m]=some (.ret (.bool (ze0 m))):=zo (pat:=fun m:Mach=>[zah m]) (fun x y h=>zbW (by simpa using h)) m h
theorem zin:∀ args r,cRMach args=some r→PCall prog 50 args r:=zn fun m h=>zth m h
theorem racc_ok(m:Mach)(hm:FitM m):PCall prog 26 [zah m] (.ret (.bool (accB m))):=by
 have hΓ:=zf zin zh;have p1:=zio m hm;obtain⟨R,hR⟩:∃ R,R=accB m:=⟨_,rfl⟩;rw [←hR];unfold accB at hR;refine PCall.walk (rs:=[.tmp 2]) [0,1,2,3,4,7,12,23,46] [42] mixed (hΓ) (zg) call26 func26 rfl ntmps26 rfl (by kernel_rfl) (by simp) (by simp [push_cast,zbm]) ?_;obtain⟨m1,m2,m3,m4,m5⟩:=hm;generalize hB:ze0 m=B at p1 hR;clear hB;obtain⟨k,s,l,q⟩:=m;unfold zah at p1 ⊢;dsimp only at m1 m2 m3 m4 m5 p1 hR;simp (disch:=first|exact Zq|fail) only [go_sem,p1];cases B with
 |false=>
  rw [Y7]at hR;rw [hR];simp (disch:=first|exact Zq|fail) only [go_sem]
 |true=>
  rw [Yar]at hR;have hbad:∀ i,i<q.length→((nthQ q i).a.all fun a=>decide (a.i=a.o))=false→R=false:=fun i hi h=>by rw [hR];exact staR.all_f (p:=fun s=>s.a.all fun a=>decide (a.i=a.o)) hi h
  clear p1;simp (disch:=first|exact Zq|fail) only [go_sem];refine AXs.loop mixed (hΓ) (zg) (fun i:Nat=>[(1,.fp [.int .i64 k,.int .i64 s,.str l,.fs (stas q) q.length]),(3,.int .i64 i)]) (fun _=>⟨[],0⟩) (fun i=>i≤q.length∧∀ j,j<i→((nthQ q j).a.all fun a=>decide (a.i=a.o))=true) (fun i=>q.length - i) 0 (by kernel_rfl) ⟨Yk _,fun j hj=>by omega⟩ (Sub.of0 [] rfl rfl ?_ ?_) ?_
  ·simp only [go_sem]
  ·simp only [go_sem]
  rintro i ⟨h1,h2⟩;simp (disch:=first|exact Zq|fail) only [go_sem];refine AXc.introP (fun h4=>?_) (fun h4=>?_);rotate_left
  ·obtain rfl:i=q.length:=by omega
   have e:R=true:=by rw [hR];exact staR.all_t (p:=fun s=>s.a.all fun a=>decide (a.i=a.o)) h2
   rw [e];simp only [go_sem];refine AXa.go mixed (hΓ) (zg) (by kernel_rfl) ?_;simp only [go_sem]
  have hi:i<q.length:=by omega
  have at1:=zeT q i hi;have hqm:nthQ q i∈q:=staR.nth_mem hi;have ha:=m2 _ hqm;have hbi:=hbad i hi;have n1:=zhz q i hi;generalize hss:nthQ q i=st at at1 ha hbi n1;obtain⟨F,A⟩:=st;dsimp only at at1 ha hbi n1;simp (disch:=first|exact Zq|fail) only [go_sem];refine AXs.loop mixed (hΓ) (zg) (fun j:Nat=>[(1,.fp [.int .i64 k,.int .i64 s,.str l,.fs (stas q) q.length]),(3,.int .i64 i),(4,.int .i64 j)]) (fun _=>⟨[],0⟩) (fun j=>j≤A.length∧∀ z,z<j→decide ((nthA A z).i=(nthA A z).o)=true) (fun j=>A.length - j) 0 (by kernel_rfl) ⟨Yk _,fun j hj=>by omega⟩ (Sub.of0 [] rfl rfl ?_ ?_) ?_
  ·simp only [go_sem]
  ·simp only [go_sem]
  rintro j ⟨k1,k2⟩;simp (disch:=first|exact Zq|fail) only [go_sem,n1,at1];refine⟨by omega,by omega,?_⟩;refine AXc.introP (fun k3=>?_) (fun k3=>?_);rotate_left
  ·obtain rfl:j=A.length:=by omega
   simp only [go_sem];refine AXa.go mixed (hΓ) (zg) (by kernel_rfl) ?_;simp (disch:=first|exact Zq|fail) only [go_sem];refine zi (i+1) ⟨by omega,fun z hz=>?_⟩ (by omega) (Sub.of0 [] rfl rfl ?_ ?_)
   ·by_cases hzi:z<i
    ·exact h2 z hzi
    ·obtain rfl:z=i:=by omega
     rw [hss];exact arcR.all_t (p:=fun a:Arc=>decide (a.i=a.o)) k2
   ·simp only [go_sem];simp
   ·simp only [go_sem]
  have hj:j<A.length:=by omega
  have at2:=zlT A j hj;have hbj:decide ((nthA A j).i=(nthA A j).o)=false→R=false:=fun h=>hbi (arcR.all_f (p:=fun a:Arc=>decide (a.i=a.o)) hj h);generalize hxx:nthA A j=x at at2 hbj;obtain⟨xi,xo,xw,xt⟩:=x;dsimp only at at2 hbj;simp (disch:=first|exact Zq|fail) only [go_sem,at1,at2];refine⟨by omega,by omega,by omega,by omega,by omega,by omega,?_⟩;refine AXc.introN (fun h5=>?_) (fun h5=>?_)
  ·rw [hbj (Yy h5)];simp (disch:=first|exact Zq|fail) only [go_sem]
  ·simp (disch:=first|exact Zq|fail) only [go_sem];refine zi (j+1) ⟨by omega,fun z hz=>?_⟩ (by omega) (Sub.of0 [] rfl rfl ?_ ?_)
   ·by_cases hzi:z<j
    ·exact k2 z hzi
    ·obtain rfl:z=j:=by omega
     rw [hxx];exact YB h5
   ·simp only [go_sem];simp
   ·simp only [go_sem]
noncomputable def cRAcc:List V→Option PR:=zu (fun m:Mach=>[zah m]) FitM fun m=>.ret (.bool (accB m))
theorem zr9(m:Mach)(h:FitM m):cRAcc [zah m]=some (.ret (.bool (accB m))):=zo (pat:=fun m:Mach=>[zah m]) (fun x y h=>zbW (by simpa using h)) m h
theorem zr8:∀ args r,cRAcc args=some r→PCall prog 26 args r:=zn fun m h=>racc_ok m h
end Go.Proofs
