/- Lists of strings, tables of strings, as values. -/
import Derived.Test.YthbimeikbkjnkaaGreatDoorAbIn
set_option linter.all false
set_option maxHeartbeats 16000000
set_option maxRecDepth 100000
namespace Go.Proofs
open Go.Ab Go.Cnt
theorem ziM {P:Program}(t:TypeId)(a b c:V)(bs:List (Nat×Blk))(m:Nat):zV P t 3 [(0,a),(1,b),(2,c)] ⟨bs,m⟩=bsL (zcs P t) [a,b,c] ⟨bs,m⟩ (zet P t 3 [(0,a),(1,b),(2,c)] ⟨bs,m⟩):=by
 unfold bsL;split
 ·rename_i s z hb;split
  ·rename_i hc;obtain⟨rfl,h1,h2,h3⟩:=hc;simp only [YbO,YcT,Yaw,Yc]at h3;obtain⟨a1,a2⟩:=V.one_cells h3.1;obtain⟨b1,b2⟩:=V.one_cells h3.2.1;obtain⟨c1,c2⟩:=V.one_cells h3.2.2;unfold zcs at hb;split at hb
   ·rename_i e he;split at hb
    ·rename_i s' z' k1 k2;cases hb;match hz:(cv z).cellsV,h2 with
     |[y],_=>
      have zz:zbw P e 3=[y,y,y]:=by simp [zbw,k2,hz]
      simp [zV,he,k1,k2,zd1,a1,a2,b1,b2,c1,c2,zz,hz,h1,putCells,Hp.new]
    ·cases hb
   ·cases hb
  ·rfl
 ·rfl
attribute [go_sem] ziM
theorem zex(l:List Str):strR.cells l=strs l:=by
 induction l with
 |nil=>rfl
 |cons a l ih=>rw [Row.cells_cons,ih];rfl
def rowR:Row (List Str) where
 enc s:=[.fs (strs s) s.length]
 n:=1
 dflt:=[]
 len _:=rfl
 pos:=by decide
 pure a x h:=by simp only [YA,Y1,Ya0]at h;subst h;exact .fs (zM a)
 one _:=rfl
 inj a b h:=by simp only [Yu,V.fs.injEq,Yam]at h;exact zam h.1
theorem zw7(l:List (List Str)):(slR strR).cells l=rowR.cells l:=by
 induction l with
 |nil=>rfl
 |cons a l ih=>rw [Row.cells_cons,Row.cells_cons,ih];show [V.fs (strR.cells a) a.length]++_=[V.fs (strs a) a.length]++_;rw [zex]
def zI(m:List (List Str)):List V:=rowR.cells m
def nthR(m:List (List Str))(i:Nat):List Str:=rowR.nth m i
theorem zkz(m:List (List Str))(i:Nat)(h:i<m.length):(zI m).drop i=.fs (strs (nthR m i)) (nthR m i).length::zI (m.drop (i+1)):=by have:=rowR.at_ m i h;rwa [show i*rowR.n=i from Yap i]at this
theorem zaW(m:List (List Str)):∀ x∈zI m,Pure x:=rowR.pure_cells m
theorem zdy(m:List (List Str)):(∀ x∈zI m,Pure x)↔True:=rowR.pure_cellsP m
theorem zyG(m:List (List Str)):(zI m).length=m.length:=(rowR.len_cells m).trans (Yap _)
theorem ztW {π:Nat→Nat}{N:Nat→Prop}(m:List (List Str)):LRel (Rn π N) (zI m) (zI m)↔True:=rowR.lrel_cells m
theorem zci {a b:List (List Str)}(h:zI a=zI b):a=b:=rowR.cells_inj h
def matR:Row (List (List Str)) where
 enc m:=[.fs (zI m) m.length]
 n:=1
 dflt:=[]
 len _:=rfl
 pos:=by decide
 pure a x h:=by simp only [YA,Y1,Ya0]at h;subst h;exact .fs (zaW a)
 one _:=rfl
 inj a b h:=by simp only [Yu,V.fs.injEq,Yam]at h;exact zci h.1
def ziU(l:List (List (List Str))):List V:=matR.cells l
def nthM(l:List (List (List Str)))(i:Nat):List (List Str):=matR.nth l i
theorem matsC_at(m:List (List (List Str)))(i:Nat)(h:i<m.length):(ziU m).drop i=.fs (zI (nthM m i)) (nthM m i).length::ziU (m.drop (i+1)):=by have:=matR.at_ m i h;rwa [show i*matR.n=i from Yap i]at this
theorem zyI(m:List (List (List Str))):(ziU m).length=m.length:=(matR.len_cells m).trans (Yap _)
theorem ztX {π:Nat→Nat}{N:Nat→Prop}(m:List (List (List Str))):LRel (Rn π N) (ziU m) (ziU m)↔True:=matR.lrel_cells m
attribute [go_sem] zdy zyG ztW zyI ztX List.getElem?_cons_zero List.getElem?_cons_succ
structure Mdl where
 tags:List Str
 words:List Str
 next:List (List Str)
 emit:List (List Str)
def mdlV(m:Mdl):V:=.agg [.fs (strs m.tags) m.tags.length,.fs (strs m.words) m.words.length,.fs (zI m.next) m.next.length,.fs (zI m.emit) m.emit.length]
theorem zcY(m:Mdl):Pure (mdlV m):=.agg fun x h=>by
 simp only [YA,Y1,Ya0]at h;rcases h with rfl|rfl|rfl|rfl
 ·exact .fs (zM _)
 ·exact .fs (zM _)
 ·exact .fs (zaW _)
 ·exact .fs (zaW _)
theorem zeG {a b:Mdl}(h:mdlV a=mdlV b):a=b:=by obtain⟨a1,a2,a3,a4⟩:=a;obtain⟨b1,b2,b3,b4⟩:=b;simp only [mdlV,V.agg.injEq,Yu,V.fs.injEq,Yam]at h;obtain⟨⟨h1,_⟩,⟨h2,_⟩,⟨h3,_⟩,⟨h4,_⟩⟩:=h;rw [zam h1,zam h2,zci h3,zci h4]
theorem zgB {p:Str→Bool}{l:List Str}(h:∀ i,i<l.length→p (l.getD i [])=true):l.all p=true:=Yg.2 fun x hx=>by obtain⟨i,hi,rfl⟩:=Yaj.1 hx;have:=h i hi;rwa [Ya,Yb hi]at this
theorem zbr {l:List Str}{i:Nat}(hi:i<l.length):l.getD i []∈l:=by rw [Ya,Yb hi];exact YZ hi
theorem zgC {p:Str→Bool}{l:List Str}{i:Nat}(hi:i<l.length)(h:p (l.getD i [])=false):l.all p=false:=by
 cases e:l.all p with
 |false=>rfl
 |true=>rw [Yg.1 e _ (zbr hi)]at h;cases h
end Go.Proofs

namespace Go.Proofs
open Tryz Go.Ab Go.Cnt
def nameB(s:Str):Bool:= !(s==[])&&decide (s.length≤40)
theorem zyV(s:Str):PCall prog 106 [.str s] (.ret (.bool (nameB s))):=by refine PCall.wD (rs:=[.tmp 2]) [0,2] [] mixed (zh) (zg) call106 func106 rfl ntmps106 rfl ?_;simp only [go_sem];have e:decide ((s.length:Int)≤40)=decide (s.length≤40):=Ya3.2 (by omega);unfold nameB;rw [e];cases s<;>simp
noncomputable def cName:List V→Option PR:=zu (fun a:Str=>[.str a]) (fun _=>True) fun a=>.ret (.bool (nameB a))
theorem cName_eq(a:Str):cName [.str a]=some (.ret (.bool (nameB a))):=zo (pat:=fun a:Str=>[.str a]) (fun x y h=>by simpa using h) a trivial
theorem cName_ok:∀ args r,cName args=some r→PCall prog 106 args r:=zn fun a _=>zyV a
attribute [go_sem] cName_eq
theorem isNaN_ok(s:Str):PCall prog 143 [.str s] (.ret (.bool false)):=by refine PCall.wD (rs:=[.tmp 2]) [0,2] [] mixed (zh) (zg) call143 func143 rfl ntmps143 rfl ?_;simp only [go_sem]
noncomputable def cIsNaN:List V→Option PR:=zu (fun a:Str=>[.str a]) (fun _=>True) fun _=>.ret (.bool false)
theorem zBc(a:Str):cIsNaN [.str a]=some (.ret (.bool false)):=zo (pat:=fun a:Str=>[.str a]) (fun x y h=>by simpa using h) a trivial
theorem zn0:∀ args r,cIsNaN args=some r→PCall prog 143 args r:=zn fun a _=>isNaN_ok a
attribute [go_sem] zBc
theorem cmpS_ok(a b:Str):PCall prog 104 [.str a,.str b] (.ret (.int .i64 (cmpS a b))):=by
 refine PCall.wD (rs:=[.tmp 4]) [0,1,4,5,6,11,12,13,16,19] [] mixed (zf zn0 zh) (zg) call104 func104 rfl ntmps104 rfl ?_;simp only [go_sem];rcases zgi a b with⟨h,e⟩|⟨h,e⟩|⟨h,h',e⟩
 ·have h1:ltS a b=true:=h;simp only [go_sem,h1,e]
 ·subst h;have h1:ltS a a=false:=za0 a;simp only [go_sem,h1,e]
 ·have h1:ltS a b=false:=h';have h2:¬a=b:=fun he=>by subst he;rw [za0]at h;cases h
  simp only [go_sem,h1,h2,Yb0,e]
noncomputable def cCmpS:List V→Option PR:=zu (fun p:Str×Str=>[.str p.1,.str p.2]) (fun _=>True) fun p=>.ret (.int .i64 (cmpS p.1 p.2))
theorem cCmpS_eq(a b:Str):cCmpS [.str a,.str b]=some (.ret (.int .i64 (cmpS a b))):=zo (pat:=fun p:Str×Str=>[.str p.1,.str p.2]) (fun x y h=>by simp at h;exact YT h.1 h.2) (a,b) trivial
theorem zlM:∀ args r,cCmpS args=some r→PCall prog 104 args r:=zn fun p _=>cmpS_ok p.1 p.2
attribute [go_sem] cCmpS_eq
end Go.Proofs

namespace Go.Proofs
open Go.Ab Go.Cnt
theorem all_t {p:Ent→Bool}:∀ {l:List Ent},(∀ i,i<l.length→p (nthE l i)=true)→l.all p=true
 |[],_=>rfl
 |e::l,h=>by rw [YbO,all_t (l:=l) fun i hi=>h (i+1) (by simpa using hi)];have:=h 0 (by simp);simpa [nthE] using this
theorem nthE_mem {l:List Ent}{i:Nat}(h:i<l.length):nthE l i∈l:=by unfold nthE;rw [Ya,Yb h];exact YZ h
theorem all_f {p:Ent→Bool}{l:List Ent}{i:Nat}(hi:i<l.length)(h:p (nthE l i)=false):l.all p=false:=by
 cases e:l.all p with
 |false=>rfl
 |true=>rw [Yg.1 e _ (nthE_mem hi)]at h;cases h
end Go.Proofs

namespace Go.Proofs
open Tryz Go.Ab Go.Cnt
theorem rname_ok(s:Str):PCall prog 74 [.str s] (.ret (.bool (nameB s))):=by
 refine PCall.wD (rs:=[.tmp 2]) [0,2] [] mixed (zh) (zg) call74 func74 rfl ntmps74 rfl ?_;simp only [go_sem];have e:decide ((s.length:Int)≤40)=decide (s.length≤40):=Ya3.2 (by omega);unfold nameB;rw [e];cases s with
 |nil=>rfl
 |cons c s=>simp;omega
noncomputable def cRName:List V→Option PR:=zu (fun a:Str=>[.str a]) (fun _=>True) fun a=>.ret (.bool (nameB a))
theorem zAC(a:Str):cRName [.str a]=some (.ret (.bool (nameB a))):=zo (pat:=fun a:Str=>[.str a]) (fun x y h=>by simpa using h) a trivial
theorem zAB:∀ args r,cRName args=some r→PCall prog 74 args r:=zn fun a _=>rname_ok a
attribute [go_sem] zAC
theorem bl_at:∀(i:Nat) (a b:Str),a.take i=b.take i→i<a.length→i<b.length→a.getD i 0<b.getD i 0→Op.bytesLess a b=true
 |0,x::a,y::b,_,_,_,h=>(zgn ..).2 (.inl h)
 |i+1,x::a,y::b,h,ha,hb,hl=>by simp only [YbS,Yu]at h;exact(zgn ..).2 (.inr ⟨h.1,bl_at i a b h.2 (by simpa using ha) (by simpa using hb) (by simpa using hl)⟩)
 |_,[],_,_,ha,_,_=>by simp at ha
 |_,_::_,[],_,_,hb,_=>by simp at hb
theorem zlP:∀(a b:Str),a=b.take a.length→a.length<b.length→Op.bytesLess a b=true
 |[],[],_,h=>by simp at h
 |[],_::_,_,_=>rfl
 |x::a,[],_,h=>by simp at h
 |x::a,y::b,h,hl=>by simp only [Ym,YbS,Yu]at h;exact(zgn ..).2 (.inr ⟨h.1,zlP a b h.2 (by simpa using hl)⟩)
theorem zzQ {a b:Str}(h:Op.bytesLess a b=true):cmpS a b= -1:=by unfold cmpS;rw [Yf h]
theorem zzR {a b:Str}(h:Op.bytesLess b a=true):cmpS a b=1:=by
 rcases zgi a b with⟨k,e⟩|⟨k,e⟩|⟨k,k',e⟩
 ·have:=zeK h k;rw [za0]at this;cases this
 ·subst k;rw [za0]at h;cases h
 ·exact e
theorem cmpS_eq(a:Str):cmpS a a=0:=by unfold cmpS;simp [za0]
theorem u8_lt(x y:UInt8):((x.toNat:Int)<(y.toNat:Int))↔x<y:=by rw [Ya9];omega
theorem zl8(a:Str)(i:Nat)(h:i<a.length):a.take (i+1)=a.take i++[a.getD i 0]:=by rw [Ya8,Ya,Yb h];rfl
theorem rcmp_ok(a b:Str)(ha:a.length≤1000000000000000)(hb:b.length≤1000000000000000):PCall prog 75 [.str a,.str b] (.ret (.int .i64 (cmpS a b))):=by
 refine PCall.wD (rs:=[.tmp 4]) [0,1,4,5,15,24,31,36,41] [] mixed (zh) (zg) call75 func75 rfl ntmps75 rfl ?_;simp only [go_sem];refine AXs.loop mixed (zh) (zg) (fun i:Nat=>[(0,.str a),(1,.str b),(5,.int .i64 i)]) (fun _=>⟨[],0⟩) (fun i=>i≤a.length∧i≤b.length∧a.take i=b.take i) (fun i=>a.length - i) 0 (by kernel_rfl)
  ⟨Yk _,Yk _,rfl⟩ (Sub.of0 [] rfl rfl ?_ ?_) ?_
 ·simp only [go_sem]
 ·simp only [go_sem]
 rintro i ⟨h1,h2,h3⟩;simp only [go_sem];by_cases h4:i<a.length∧i<b.length
 ·obtain⟨h4,h5⟩:=h4;have e1:decide ((i:Int)<(a.length:Int))=true:=YB (by omega);have e2:decide ((i:Int)<(b.length:Int))=true:=YB (by omega);simp (disch:=first|exact Zq|fail) only [go_sem,e1,e2];refine⟨by omega,by omega,?_⟩;refine AXc.introP (fun h6=>?_) (fun h6=>?_)
  ·simp only [go_sem];exact(zzQ (bl_at i a b h3 h4 h5 ((u8_lt _ _).1 h6))).symm
  simp (disch:=first|exact Zq|fail) only [go_sem];refine⟨by omega,by omega,?_⟩;refine AXc.introP (fun h7=>?_) (fun h7=>?_)
  ·simp only [go_sem];exact(zzR (bl_at i b a h3.symm h5 h4 ((u8_lt _ _).1 h7))).symm
  simp (disch:=first|exact Zq|fail) only [go_sem];have h8:a.getD i 0=b.getD i 0:=YaW.1 (by omega);refine zi (i+1) ⟨by omega,by omega,?_⟩ (by omega) (Sub.of0 [] rfl rfl ?_ ?_)
  ·rw [zl8 a i h4,zl8 b i h5,h3,h8]
  ·simp only [go_sem];simp
  ·simp only [go_sem]
 ·have e1:(decide ((i:Int)<(a.length:Int))&&decide ((i:Int)<(b.length:Int)))=false:=by
   simp only [YbJ,YS]
   omega
  simp only [go_sem,e1]
  refine AXa.go mixed (zh) (zg) (by kernel_rfl) ?_
  simp only [go_sem]
  refine AXc.introP (fun h6=>?_) (fun h6=>?_)
  ·simp only [go_sem];have:i=a.length:=by omega
   subst this;rw [YQ]at h3;exact(zzQ (zlP a b h3 (by omega))).symm
  simp only [go_sem]
  refine AXc.introP (fun h7=>?_) (fun h7=>?_)
  ·simp only [go_sem];have:i=b.length:=by omega
   subst this;rw [YQ]at h3;exact(zzR (zlP b a h3.symm (by omega))).symm
  simp only [go_sem]
  have k1:i=a.length:=by omega
  have k2:a.length=b.length:=by omega
  rw [k1,YQ,k2,YQ]at h3
  rw [h3,cmpS_eq]
noncomputable def cRCmp:List V→Option PR:=zu (fun p:Str×Str=>[.str p.1,.str p.2]) (fun p=>p.1.length≤1000000000000000∧p.2.length≤1000000000000000) fun p=>.ret (.int .i64 (cmpS p.1 p.2))
theorem cRCmp_eq(a b:Str)(ha:a.length≤1000000000000000)(hb:b.length≤1000000000000000):cRCmp [.str a,.str b]=some (.ret (.int .i64 (cmpS a b))):=zo (pat:=fun p:Str×Str=>[.str p.1,.str p.2]) (fun x y h=>by simp at h;exact YT h.1 h.2) (a,b) ⟨ha,hb⟩
theorem cRCmp_ok:∀ args r,cRCmp args=some r→PCall prog 75 args r:=zn fun p hp=>rcmp_ok p.1 p.2 hp.1 hp.2
attribute [go_sem] cRCmp_eq
noncomputable def incS(l:List Str):Bool:=@decide (∀ i,i+1<l.length→cmpS (l.getD i []) (l.getD (i+1) [])<0) (Classical.propDecidable _)
open Classical in
theorem incS_t {l:List Str}(h:∀ i,i+1<l.length→cmpS (l.getD i []) (l.getD (i+1) [])<0):incS l=true:=by unfold incS;exact YB h
open Classical in
theorem incS_f {l:List Str}{i:Nat}(hi:i+1<l.length)(h:¬cmpS (l.getD i []) (l.getD (i+1) [])<0):incS l=false:=by unfold incS;exact Yy fun k=>h (k i hi)
theorem incrS_ok(l:List Str)(hl:l.length≤1000000):PCall prog 103 [.fs (strs l) l.length,.fn 104 []] (.ret (.bool (incS l))):=by
 refine PCall.wD (rs:=[.tmp 4]) [0,1,4,5,9,23] [] mixed (zf zlM zh) (zg) call103 func103 rfl ntmps103 rfl ?_;simp only [go_sem];refine AXs.loop mixed (zf zlM zh) (zg) (fun i:Nat=>[(0,.fs (strs l) l.length),(1,.fn 104 []),(5,.int .i64 i)]) (fun _=>⟨[],0⟩) (fun i=>1≤i∧(i≤1∨i≤l.length)∧∀ j,j+1<i→cmpS (l.getD j []) (l.getD (j+1) [])<0) (fun i=>l.length+1 - i) 1 (by kernel_rfl)
  ⟨Ye _,.inl (Ye _),fun j hj=>by omega⟩ (Sub.of0 [] rfl rfl ?_ ?_) ?_
 ·simp only [go_sem]
 ·simp only [go_sem]
 rintro i ⟨h1,h2,h3⟩;simp only [go_sem];refine AXc.introP (fun h4=>?_) (fun h4=>?_)
 ·simp (disch:=first|exact Zq|fail) only [go_sem]
  (repeat refine sdC ?_);refine AXc.introP (fun h5=>?_) (fun h5=>?_)
  ·simp only [go_sem];exact(incS_f (i:=i - 1) (by omega) (by rw [show i - 1+1=i by omega];omega)).symm
  ·simp (disch:=first|exact Zq|fail) only [go_sem];refine zi (i+1) ⟨by omega,by omega,fun j hj=>?_⟩ (by omega) (Sub.of0 [] rfl rfl ?_ ?_)
   ·by_cases hji:j+1<i
    ·exact h3 j hji
    ·have:j=i - 1:=by omega
     subst this;rw [show i - 1+1=i by omega];omega
   ·simp only [go_sem];simp
   ·simp only [go_sem]
 ·simp only [go_sem];refine AXa.go mixed (zf zlM zh) (zg) (by kernel_rfl) ?_;simp only [go_sem];exact(incS_t fun j hj=>h3 j (by omega)).symm
noncomputable def cIncrS:List V→Option PR:=zu (fun l:List Str=>[.fs (strs l) l.length,.fn 104 []]) (fun l=>l.length≤1000000) fun l=>.ret (.bool (incS l))
@[go_sem] theorem cIncrS_eq(l:List Str)(hl:l.length≤1000000):cIncrS [.fs (strs l) l.length,.fn 104 []]=some (.ret (.bool (incS l))):=
 zo (pat:=fun l:List Str=>[.fs (strs l) l.length,.fn 104 []]) (fun x y h=>by simp at h;exact zam h.1) l hl
theorem zBf:∀ args r,cIncrS args=some r→PCall prog 103 args r:=zn incrS_ok
noncomputable def ziO(l:List Str):Bool:=l.all nameB&&incS l
theorem rincr_ok(l:List Str)(hl:l.length≤1000000)(hs:∀ s∈l,s.length≤1000000000000000):PCall prog 47 [.fs (strs l) l.length] (.ret (.bool (ziO l))):=by
 have hΓ:=zf zAB (zf cRCmp_ok zh);refine PCall.wD (rs:=[.tmp 2]) [0,2,3,7,32] [] mixed (hΓ) (zg) call47 func47 rfl ntmps47 rfl ?_;simp only [go_sem];refine AXs.loop mixed (hΓ) (zg) (fun i:Nat=>[(0,.fs (strs l) l.length),(3,.int .i64 i)]) (fun _=>⟨[],0⟩) (fun i=>i≤l.length∧(∀ j,j<i→nameB (l.getD j [])=true)∧∀ j,j+1<i→cmpS (l.getD j []) (l.getD (j+1) [])<0) (fun i=>l.length - i) 0 (by kernel_rfl)
  ⟨Yk _,fun j hj=>by omega,fun j hj=>by omega⟩ (Sub.of0 [] rfl rfl ?_ ?_) ?_
 ·simp only [go_sem]
 ·simp only [go_sem]
 rintro i ⟨h1,h2,h3⟩;simp only [go_sem];refine AXc.introP (fun h4=>?_) (fun h4=>?_)
 ·have hil:i<l.length:=by omega
  have s1:=hs _ (zbr hil);have s2:=hs _ (zbr (l:=l) (i:=i - 1) (by omega));by_cases hn:nameB (l.getD i [])=true
  case neg=>
   have hn':nameB (l.getD i [])=false:=by simpa using hn
   have hr:ziO l=false:=by unfold ziO;rw [zgC hil hn'];rfl
   rw [hr]
   simp (disch:=first|exact Zq|fail) only [go_sem,hn']
   (repeat refine sdC ?_)
   omega
  rcases YD i with rfl|hp
  ·simp (disch:=first|exact Zq|fail) only [go_sem,hn];refine⟨by omega,by omega,?_⟩;refine zi 1 ⟨by omega,fun j hj=>?_,fun j hj=>by omega⟩ (by omega) (Sub.of0 [] rfl rfl ?_ ?_)
   ·obtain rfl:j=0:=by omega
    exact hn
   ·simp only [go_sem]
   ·simp only [go_sem]
  ·have d1:decide (0<(i:Int))=true:=by rw [Yh];omega
   simp (disch:=first|exact Zq|fail) only [go_sem,hn,d1];refine⟨⟨by omega,by omega⟩,by omega,⟨by omega,by omega⟩,by omega,⟨by omega,by omega⟩,by omega,?_⟩;refine AXc.introP (fun h5=>?_) (fun h5=>?_)
   ·simp only [go_sem];unfold ziO;rw [incS_f (i:=i - 1) (by omega) (by rw [show i - 1+1=i by omega];omega),YaQ]
   ·simp (disch:=first|exact Zq|fail) only [go_sem];refine zi (i+1) ⟨by omega,fun j hj=>?_,fun j hj=>?_⟩ (by omega) (Sub.of0 [] rfl rfl ?_ ?_)
    ·by_cases hji:j<i
     ·exact h2 j hji
     ·obtain rfl:j=i:=by omega
      exact hn
    ·by_cases hji:j+1<i
     ·exact h3 j hji
     ·have:j=i - 1:=by omega
      subst this;rw [show i - 1+1=i by omega];omega
    ·simp only [go_sem];simp
    ·simp only [go_sem]
 ·have:i=l.length:=by omega
  subst this;simp only [go_sem];refine AXa.go mixed (hΓ) (zg) (by kernel_rfl) ?_;simp only [go_sem];unfold ziO;rw [zgB h2,incS_t h3];rfl
end Go.Proofs

namespace Go.Ab
variable {P:Program}
theorem HCall.view1 {f:FuncId}{args:List V}{X:List V}{o n sz:Nat}(hN:NCall P f args [.cells X] [] (.sl 0 o n sz Option.none) ⟨[(0,.cells X)],1⟩)(hX:∀ x∈X,Pure x)
 (b:Nat) (args':List V) (H:Hp) (ha:LRel (Rn (fun i=>[b].getD i 0) (· <1)) args args') (hb:H.get b=some (.cells X)) (hk:∀ b x,H.get b=some x→b<H.next):
 HCall P f args' H ⟨True,.sl b o n sz Option.none,H,[b],[]⟩:=by
 have tc:zU [b] H.next b=0:=by unfold zU;rw [Yf (hk b _ hb)];simp
 refine HCall.of hN [b] args' (.sl b o n sz Option.none) H H rfl (by simp) ha (fun i x hx=>?_) ?_ rfl (fun b' x' hx'=>?_) (fun b' hb' hw=>rfl)
 ·match i with
  |0=>cases hx;exact⟨b,_,rfl,hb,.cells (zt hX)⟩
  |i+1=>simp at hx
 ·have:=Rn.sl (π:=zU [b] H.next) (N:=fun b'=>b'∈[b]∨(H.next≤b'∧b'<H.next)) (b:=b) (off:=o) (len:=n) (sz:=sz) (kc:=Option.none) (kc':=Option.none) (.inl (by simp)) (.inl rfl)
  rwa [tc]at this
 ·by_cases he:b'=b
  ·subst he
   rw [hb]at hx'
   cases hx'
   refine .inr ⟨.inl (by simp),.cells X,?_,.cells (zt hX)⟩
   rw [tc];rfl
  ·exact .inl ⟨hk b' _ hx',by simpa using he,hx'⟩
theorem HCall.putS {f:FuncId}{args:List V}{X0 X:List V}{v:V}(hN:NCall P f args [.cells X0] [0] v ⟨[(0,.cells X)],1⟩)(hv:Pure v)(hX0:∀ x∈X0,Pure x)(hX:∀ x∈X,Pure x)
 (b:Nat) (args':List V) (H:Hp) (ha:LRel (Rn (fun i=>[b].getD i 0) (· <1)) args args') (hb:H.get b=some (.cells X0)) (hk:∀ b x,H.get b=some x→b<H.next):
 HCall P f args' H ⟨True,v,H.put b (.cells X),[b],[b]⟩:=by
 have tc:zU [b] H.next b=0:=by unfold zU;rw [Yf (hk b _ hb)];simp
 refine HCall.of hN [b] args' v H (H.put b (.cells X)) rfl (by simp) ha (fun i x hx=>?_) (.same hv) rfl (fun b' x' hx'=>?_) (fun b' hb' hw=>?_)
 ·match i with
  |0=>cases hx;exact⟨b,_,rfl,hb,.cells (zt hX0)⟩
  |i+1=>simp at hx
 ·rw [Hp.get_put]at hx'
  split at hx'
  ·rename_i he
   subst he
   rw [hb]at hx'
   cases hx'
   refine .inr ⟨.inl (by simp),.cells X,?_,.cells (zt hX)⟩
   rw [tc];rfl
  ·rename_i he
   exact .inl ⟨hk b' _ hx',by simpa using he,hx'⟩
 ·rw [Hp.get_put,Yd (by simpa using hw)]
end Go.Ab

namespace Go.Ab
variable {P:Program}{C:Cfg}{K:Out→St→Prop}{st:List Fr}{env:Env}{h:Hp}
def KToF {α:Type}(C:Cfg)(P:Program)(K:Out→St→Prop)(st:List Fr)(p:α→Prop)(S:α→St):Out→St→Prop
 | .norm,s=>∃ i,p i∧(Sub C s (S i)∨(C.Wm=[]∧∃ F,Fz C.nx F s (S i)))
 | .exit i,s=>unst C P K st (.exit i) s
 | .ret,s=>unst C P K st .ret s
 | .panic v,s=>unst C P K st (.panic v) s
theorem zeh {α:Type}{p:α→Prop}{S:α→St}{s:St}(i:α)(hi:p i)(hs:Sub C s (S i)):KToF C P K st p S .norm s:=⟨i,hi,.inl hs⟩
theorem AXa.cutF {α:Type}(n:Nat)(pr:α→Prop)(env':α→Env)(h':α→Hp){y p q:Code}(hn:takeC n y=some (p,q))(hm:P.follows .mixedOrders=true)(hΓ:zdo P C.Γ)(hΔ:zba P C.Δ)(hok:zar C.nt y=true)
 (hx:AXs C P (KToF C P K st pr fun i=>⟨env' i,h' i⟩) [] p env h) (hc:∀ i,pr i→AXa C P K st q (env' i) (h' i)):AXa C P K st y env h:=
 zkf hm ⟨hΓ,hΔ⟩ n y p q ⟨env,h⟩ _ _ hn hok hx fun o s k=>by
  cases o with
  |norm=>
   obtain⟨i,hi,k⟩:=k;rcases k with k|⟨hW,F,k⟩
   ·exact AX.sub k (hc i hi)
   ·exact AX.freeze hW k (hc i hi)
  |exit i=>exact k
  |ret=>exact k
  |panic v=>exact k
theorem NCall.walkWA {nt:Nat}(keep:List Nat)(fz:List Nat)(nx:Nat)(W:List Nat){Γ:FuncId→List V→Option PR}{Δ:FuncId→List V→Hp→Option AR}{f:FuncId}{fn:Func}{c:Code}{args:List V}{F:List Blk}{v:V}{Hc:Hp}{rs:List ResultVar}
 (hm:P.follows .mixedOrders=true) (hΓ:zdo P Γ) (hΔ:zba P Δ) (hc:zk P f) (hf:P.funcs[f]? =some fn) (hb:fn.body=some c) (hnt:fn.ntmps=nt) (hrs:fn.results.toList=rs) (hok:zar nt c=true) (hle:args.length≤nt) (hnx:nx=F.length) (hW:∀ b∈W,b<F.length) (hn:F.length≤Hc.next)
 (h:AXa ⟨nt,zbq keep,Γ,Δ,nx,W,zbq fz⟩ P (EndN ⟨nt,zbq keep,Γ,Δ,nx,W,zbq fz⟩ P rs v Hc) [] c (zbX 0 args) ⟨numB 0 F,nx⟩):NCall P f args F W v Hc:=by
 subst hnx
 refine NCall.of (C:=⟨nt,zbq keep,Γ,Δ,F.length,W,zbq fz⟩) hc hf hb hnt hle rfl hW hn ?_
 refine AX.mono h fun o s hk=>?_
 subst hrs
 cases o with
 |norm=>obtain⟨env',h1,h2,h3⟩:=hk;exact⟨.inl rfl,_,h1,rfl,h2,h3⟩
 |ret=>obtain⟨env',h1,h2,h3⟩:=hk;exact⟨.inr rfl,_,h1,rfl,h2,h3⟩
 |exit i=>exact hk.elim
 |panic v=>exact hk.elim
end Go.Ab

namespace Go.Ab
def FzB(H:Hp)(F:Nat→Prop)(n:Nat)(x' x:Blk):Prop:=
 RnB id (fun b=>¬F b∧b<n) x' x∨∃ cs cs',x=.cells cs∧x'=.cells cs'∧cs'.length=cs.length∧∀(i:Nat) (u v:V),cs[i]? =some u→cs'[i]? =some v→Rn id (fun b=>¬F b∧b<n) v u∨FrzF H F u v
structure Fz2(nx:Nat)(F:Nat→Prop)(s s':St):Prop where
 env:∀ t v',s'.env.lookup t=some v'→v'=.any∨∃ v,s.env.lookup t=some v∧(Rn id (fun b=>¬F b∧b<s'.h.next) v' v∨FrzF s.h F v v')
 heap:∀ b x',s'.h.get b=some x'→b<s'.h.next∧¬F b∧∃ x,s.h.get b=some x∧FzB s.h F s'.h.next x' x
 live:∀ b,F b→nx≤b∧∃ x,s.h.get b=some x
 elder:∀ b,b<nx→s'.h.get b=s.h.get b
 next:nx≤s'.h.next
open Classical in
theorem Rel.freeze2 {C:Cfg}{base:Nat}{D:Nat→Prop}{g0:G}{H0:Hp}{w0:World}{g:G}{F:Nat→Prop}{s s':St}{a:Act}{w:World}(he:Entry C base D g0 H0 w0)(r:Rel C base D g0 H0 w0 g s a w)(hW:C.Wm=[])(h:Fz2 C.nx F s s'):
 ∃ g',Rel C base D g0 H0 w0 g' s' a w:=by
 let cellsAt:Nat→Option (Array Value):=fun c=>match w.heap[c]? with|some (.cells arr _ _)=>some arr|_=>none
 let g':G:=⟨fun b=>if ¬F b∧b<s'.h.next then g.mu b else none,fun c=>(g.phi c).or (if ∃ b T,F b∧g.mu b=some T∧T.c=c then cellsAt c else none)⟩
 have hp:∀ c a,g.phi c=some a→g'.phi c=some a:=fun c a e=>by show (g.phi c).or _=_;rw [e];rfl
 have hm:∀ b,(¬F b∧b<s'.h.next)→g'.mu b=g.mu (id b):=fun b hb=>Yf hb
 have hm':∀ b T,g'.mu b=some T→(¬F b∧b<s'.h.next)∧g.mu b=some T:=by
  intro b T e;simp only [g']at e;split at e
  ·rename_i hb;exact⟨hb,e⟩
  ·cases e
 have pnx:=he.nx
 have ha:∀ b T arr t,F b→g.mu b=some T→w.heap[T.c]? =some (.cells arr t (0,0))→g'.phi T.c=some arr:=by
  intro b T arr t hF hmu hh;show (g.phi T.c).or _=_;obtain⟨x,hx⟩:=(h.live b hF).2;obtain⟨T1,o,e1,e2,_⟩:=r.post.inv.cont b x (he.inD b) hx;obtain rfl:T1=T:=by rw [hmu]at e1;exact(Yl e1).symm
  rw [e2,Yf ⟨b,T1,hF,hmu,rfl⟩];show cellsAt T1.c=some arr;simp only [cellsAt,hh]
 have hphi:∀ c a,g'.phi c=some a→g.phi c=some a∨((∃ b T,F b∧g.mu b=some T∧T.c=c)∧cellsAt c=some a):=by
  intro c a e;have e':(g.phi c).or (if ∃ b T,F b∧g.mu b=some T∧T.c=c then cellsAt c else none)=some a:=e;cases e1:g.phi c with
  |some a'=>rw [e1]at e';left;exact e'
  |none=>
   rw [e1]at e';simp only [YcU]at e';split at e'
   ·rename_i hc;exact .inr ⟨hc,e'⟩
   ·cases e'
 refine⟨g',⟨⟨r.env.glob.mono hp,r.env.size,fun t v' e=>?_⟩,r.defers,?_⟩⟩
 ·rcases h.env t v' e with rfl|⟨v,ev,rn|fz⟩
  ·exact .any _
  ·exact(r.env.rel t v ev).rn hp hm rn
  ·exact fz.rel r.post.inv (fun b _=>he.inD b) hp ha (r.env.rel t v ev)
 ·have own:∀ b T,g.mu b=some T→C.nx≤b→w0.heap.size≤T.c:=by
   intro b T e hb
   rcases r.post.newmu b T e with e0|⟨_,hc|⟨b0,h0,_⟩⟩
   ·have:=(he.inv.dom b T e0).1;omega
   ·exact hc
   ·rw [hW]at h0;cases h0
  refine⟨?_,?_,?_,?_,r.post.frame,r.post.size,r.post.os,r.post.tape,r.post.output,?_,?_⟩
  ·refine⟨fun b T e=>?_,fun c a e=>hp c a (r.post.le.2 c a e)⟩
   have hb:=(he.inv.dom b T e).1
   have hnF:¬F b:=fun hF=>by have:=(h.live b hF).1;omega
   have:g'.mu b=g.mu b:=hm b ⟨hnF,by have:=h.next;omega⟩
   rw [this]
   exact r.post.le.1 b T e
  ·refine⟨fun c a e=>?_,fun b T e=>?_,fun b x e=>(h.heap b x e).1,fun b x _ e=>?_,fun b b' x x' T T' _ _ e e' m m' ec=>?_,r.post.inv.base⟩
   ·rcases hphi c a e with e|⟨_,e⟩
    ·exact r.post.inv.frz c a e
    ·simp only [cellsAt]at e
     split at e
     ·rename_i arr t fr hh;cases e;exact⟨t,fr,hh⟩
     ·cases e
   ·obtain⟨h1,h2⟩:=hm' b T e
    exact⟨h1.2,(r.post.inv.dom _ T h2).2⟩
   ·obtain⟨hb,hnF,y,hy,rn⟩:=h.heap b x e
    obtain⟨T,o,e1,e2,e3,e4⟩:=r.post.inv.cont _ y (he.inD _) hy
    refine⟨T,o,(hm b ⟨hnF,hb⟩).trans e1,?_,e3,?_⟩
    rotate_left
    ·rcases rn with rn|⟨cs,cs',rfl,rfl,hl,hc⟩
     ·exact e4.rn hp hm rn
     ·cases e4 with
      |cells hs hbd hpw=>
       refine .cells hs (by omega) fun i v hv=>?_
       have hlt:=(Yx.1 hv).1
       obtain⟨u,hu,ru⟩:=hpw i _ (Yb (by omega))
       refine⟨u,hu,?_⟩
       rcases hc i _ v (Yb (by omega)) hv with k|k
       ·exact ru.rn hp hm k
       ·exact k.rel r.post.inv (fun b _=>he.inD b) hp ha ru
    cases e5:g'.phi T.c with
    |none=>rfl
    |some ar=>
     rcases hphi _ _ e5 with e6|⟨⟨b1,T1,hF1,hm1,hc1⟩,_⟩
     ·rw [e2]at e6;cases e6
     ·obtain⟨x1,hx1⟩:=(h.live b1 hF1).2
      have:=r.post.inv.inj b1 b x1 y T1 T (he.inD _) (he.inD _) hx1 hy hm1 e1 hc1
      subst this
      exact absurd hF1 hnF
   ·obtain⟨hb,hnF,y,hy,_⟩:=h.heap b x e
    obtain⟨hb',hnF',y',hy',_⟩:=h.heap b' x' e'
    exact r.post.inv.inj _ _ y y' T T' (he.inD _) (he.inD _) hy hy' (hm' b T m).2 (hm' b' T' m').2 ec
  ·intro b T e
   exact r.post.newmu b T (hm' b T e).2
  ·intro c a e
   rcases hphi c a e with e|⟨⟨b,T,hF,hmu,rfl⟩,_⟩
   ·exact r.post.newphi c a e
   ·exact .inr (own b T hmu (h.live b hF).1)
  ·intro b hb hn
   rw [h.elder b (by omega)]
   exact r.post.aframe b hb hn
  ·have:=h.next;omega
theorem AX.freeze2 {C:Cfg}{P:Program}{K:Out→St→Prop}{F:Nat→Prop}{c:Code}{s s':St}(hW:C.Wm=[])(hs:Fz2 C.nx F s s')(h:AX C P c s' K):AX C P c s K:=fun base D g0 H0 w0 _ a w he r=>
 let ⟨g',r'⟩:=r.freeze2 he hW hs
 h base D g0 H0 w0 g' a w he r'
def lFz(H:Hp)(F:Nat→Prop)(n:Nat):List V→List V→Prop
 |[],[]=>True
 |u::cs,v::cs'=>(Rn id (fun b=>¬F b∧b<n) v u∨FrzF H F u v)∧lFz H F n cs cs'
 |_,_=>False
theorem lFz_ok {H:Hp}{F:Nat→Prop}{n:Nat}:∀ {cs cs':List V},lFz H F n cs cs'→cs'.length=cs.length∧∀(i:Nat) (u v:V),cs[i]? =some u→cs'[i]? =some v→Rn id (fun b=>¬F b∧b<n) v u∨FrzF H F u v
 |[],[],_=>⟨rfl,fun i u v h=>by simp at h⟩
 |u::cs,v::cs',h=>by
  obtain⟨h1,h2⟩:=h;obtain⟨k1,k2⟩:=lFz_ok h2;refine⟨by simp [k1],fun i x y hx hy=>?_⟩;match i with
  |0=>cases hx;cases hy;exact h1
  |i+1=>exact k2 i x y (by simpa using hx) (by simpa using hy)
 |[],_::_,h=>h.elim
 |_::_,[],h=>h.elim
def fzC(H:Hp)(F:Nat→Prop)(n:Nat)(bs:List (Nat×Blk)):List (Nat×List V)→Prop
 |[]=>True
 |(b,cs')::r=>(b<n∧¬F b∧zsS (zas bs b) (fun y=>match y with| .cells cs=>lFz H F n cs cs'|_=>False))∧fzC H F n bs r
def zvi(l:List (Nat×List V)):List (Nat×Blk):=l.map fun p=>(p.1,.cells p.2)
theorem zzh {H:Hp}{F:Nat→Prop}{n:Nat}{bs:List (Nat×Blk)}:∀ {bs':List (Nat×List V)},fzC H F n bs bs'→∀ b x',(zvi bs').lookup b=some x'→b<n∧¬F b∧∃ x,zas bs b=some x∧FzB H F n x' x
 |[],_,b,x',h=>by cases h
 |(k,u)::r,hs,b,x',h=>by
  rw [zvi,YM,Yq]at h;by_cases hk:b=k
  ·subst hk;simp only [Yaz,Yv]at h;subst h;obtain⟨⟨h1,h0,h2⟩,_⟩:=hs;refine⟨h1,h0,?_⟩;cases e:zas bs b with
   |none=>rw [e]at h2;exact h2.elim
   |some y=>
    rw [e]at h2;cases y with
    |cells cs=>obtain⟨k1,k2⟩:=lFz_ok (show lFz H F n cs u from h2);exact⟨_,rfl,.inr ⟨cs,u,rfl,rfl,k1,k2⟩⟩
    |_=>exact(show False from h2).elim
  ·have hb:(b==k)=false:=by simp [hk]
   simp only [hb]at h;exact zzh hs.2 b x' h
theorem AXa.fz2 {C:Cfg}{P:Program}{K:Out→St→Prop}{st:List Fr}{y:Code}{env env':Env}{bs:List (Nat×Blk)}{n n':Nat}(fl:List Nat)(bs':List (Nat×List V))(hW:C.Wm=[])(h0:C.nx=0)(hl:(fl.all fun b=>(zas bs b).isSome)=true)
 (he:fzE (· ∈fl) n' ⟨bs,n⟩ env env') (hh:fzC ⟨bs,n⟩ (· ∈fl) n' bs bs') (hx:AXa C P K st y env' ⟨zvi bs',n'⟩):AXa C P K st y env ⟨bs,n⟩:=by
 refine AX.freeze2 (F:=(· ∈fl)) hW ⟨znn he,fun b x' e=>?_,fun b hb=>⟨by omega,?_⟩,fun b hb=>by omega,by rw [h0];exact Yk _⟩ hx
 ·obtain⟨h1,h2,x,h3,h4⟩:=zzh hh b x' e
  exact⟨h1,h2,x,by rw [zbh];exact h3,h4⟩
 ·have:=Yg.1 hl b hb
  rw [Yav]at this
  rw [zbh];exact this
end Go.Ab
