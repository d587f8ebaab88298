/- The reference's rational numbers: index, short, Parts, Valid. -/
import Derived.Test.YtbdlfegfepggnaaGreatDoorF2c
set_option linter.all false
set_option maxHeartbeats 16000000
set_option maxRecDepth 100000
noncomputable section
namespace Go.Proofs
open Tryz Go.Ab Go.Pl
def ixB_some {s:ZL}{c:UInt8}{i:Nat}(hi:i<s.length)(h:s.getD i 0=c)(hb:∀j,j<i→s.getD j 0≠c):s.findIdx? (· ==c)=some i:=by
 rw[Ya1];have e:∀j (hj:j<s.length),s[j]=s.getD j 0:=fun j hj=>by simp[Ya,hj]
 refine⟨hi,by rw[e i hi,h];simp,fun j hj=>?_⟩;have:=hb j hj;rw[e j Zo];simpa using this
def ixB_none {s:ZL}{c:UInt8}(hb:∀j,j<s.length→s.getD j 0≠c):s.findIdx? (· ==c)=none:=by rw[List.findIdx?_eq_none_iff];intro x hx;obtain⟨j,hj,rfl⟩:=Yaw.1 hx;have:=hb j hj;rw[Ya,Yb hj]at this;simpa using this
def zxa(s:ZL)(c:UInt8)(hl:s.length≤1000000000):PCall prog 141 [.str s,.int .u8 (c.toNat:Int)] (.ret (.int .i64 (ixB s c))):=by
 refine Xc (rs:=[.tmp 4]) [0,1,4,5,9,16] [] mixed (zh) (zf) call141 func141 rfl ntmps141 rfl ?_;simp only[go_sem];refine AXs.loop mixed (zh) (zf) (fun i:Nat=>[(0,.str s),(1,.int .u8 (c.toNat:Int)),(5,.int .i64 i)]) (fun _=>⟨[],0⟩) (fun i=>i≤s.length∧∀j,j<i→s.getD j 0≠c) (fun i=>s.length-i) 0 Zk ⟨Yk _,by intro j hj;omega⟩ (Xa [] rfl rfl ?_ ?_) ?_
 ·simp only[go_sem]
 ·simp only[go_sem]
 rintro i ⟨hi,hb⟩;simp only[go_sem];refine Xb (fun h1=>?_) (fun h1=>?_)
 ·have hi':i<s.length:=Zo;simp(disch:=try exact Zq)only[go_sem]
  (repeat refine sdC ?_);refine Xb (fun h2=>?_) (fun h2=>?_)
  ·have h3:s.getD i 0=c:=YaY.1 Zo;simp only[go_sem,ixB,ixB_some hi' h3 hb]
  have h3:s.getD i 0≠c:=fun e=>h2 (by rw[e]);simp(disch:=try exact Zq)only[go_sem];refine zi (i+1) ⟨Zo,fun j hj=>?_⟩ Zo (Xa [] rfl rfl ?_ ?_)
  ·by_cases hji:j=i
   ·rw[hji];exact h3
   exact hb j Zo
  ·simp only[go_sem];simp
  simp only[go_sem]
 have hie:i=s.length:=Zo;subst hie;simp only[go_sem];refine AXa.go mixed (zh) (zf) Zk ?_;simp only[go_sem,ixB,ixB_none hb]
def zzY:ZV:=zC (fun p:ZL×UInt8=>[.str p.1,.int .u8 (p.2.toNat:Int)]) (fun p=>p.1.length≤1000000000) (fun p=>.ret (.int .i64 (ixB p.1 p.2)))
def zvj:ZC zzY 141:=zn fun p h=>zxa p.1 p.2 h
@[go_sem]def cRIndex47(s:ZL)(hl:s.length≤1000000000):zzY [.str s,.int .u8 47]=some (.ret (.int .i64 (ixB s 47))):=zo (pat:=fun p:ZL×UInt8=>[V.str p.1,.int .u8 (p.2.toNat:Int)]) (fun p q h=>by simp at h;obtain⟨h1,h2⟩:=h;have:p.2=q.2:=YaY.1 Zo;exact Yai h1 this) (s,47) hl
theorem zw8(s:ZL):PCall prog 142 [.str s] (.ret (.bool (zaB s))):=by have hΓ:=zg za5 zh;refine Xc (rs:=[.tmp 2]) [0,2] [] mixed (hΓ) (zf) call142 func142 rfl ntmps142 rfl ?_;simp only[go_sem];rw[Ybp,shortN_iff,Yg,Yq,and_comm];exact and_congr_right fun _=>Zo
def zzU:ZV:=zC (fun a:ZL=>[.str a]) (fun _=>True) fun a=>.ret (.bool (zaB a))
@[go_sem]def cRShort_eq(a:ZL):zzU [.str a]=some (.ret (.bool (zaB a))):=zo (pat:=fun a:ZL=>[.str a]) (fun x y h=>by simpa using h) a trivial
theorem zvi:ZC zzU 142:=zn fun a _=>zw8 a
def zbV(a:ZL):V:=match ratP a with
 |some (s,n,d)=>.tup [.bool s,.str (dec n),.str (dec d),.bool true]
 |none=>.tup [.bool false,.str [],.str [],.bool false]
def zgx(neg:Bool)(n d:ZL)(fr:Bool):V:=if zb0 neg n d fr=true then .tup [.bool neg,.str n,.str d,.bool true]else .tup [.bool false,.str [],.str [],.bool false]
def zdj(a:ZL):zbV a=zgx (zD a).1 (zD a).2.1 (zD a).2.2.1 (zD a).2.2.2:=by
 unfold zbV zgx ratP;split
 ·rename_i h;split at h
  ·rename_i hk;simp only[YJ,Ybr]at h;obtain⟨rfl,rfl,rfl⟩:=h;rw[Yi hk];simp only[zb0,Yg]at hk;rw[zam (shortN_iff.1 hk.1.1.1.1).1,zam (shortN_iff.1 hk.1.1.1.2).1]
  cases h
 rename_i h;split at h
 ·cases h
 rename_i hk;rw[Yh hk]
def zjt {a:ZL}{neg:Bool}{r:ZL}{i:Nat}(h1:decide (a.getD 0 0=45)=neg)(h2:r=if neg=true then a.drop 1 else a)(h3:r.findIdx? (· ==47)=some i):zbV a=zgx neg (r.take i) (r.drop (i+1)) true:=by
 rw[zdj];have:zD a=(neg,r.take i,r.drop (i+1),true):=by unfold zD;simp only;rw[h1,←h2,h3]
 rw[this]
def zju {a:ZL}{neg:Bool}{r:ZL}(h1:decide (a.getD 0 0=45)=neg)(h2:r=if neg=true then a.drop 1 else a)(h3:r.findIdx? (· ==47)=none):zbV a=zgx neg r [49] false:=by
 rw[zdj];have:zD a=(neg,r,[49],false):=by unfold zD;simp only;rw[h1,←h2,h3]
 rw[this]
def zg0 {neg:Bool}{n d:ZL}{fr:Bool}(h:zb0 neg n d fr=true):zgx neg n d fr=.tup [.bool neg,.str n,.str d,.bool true]:=Yi h
def zbf {neg:Bool}{n d:ZL}{fr:Bool}(h:zb0 neg n d fr=false):zgx neg n d fr=.tup [.bool false,.str [],.str [],.bool false]:=Yh (by rw[h];decide)
def zeb {neg:Bool}{n d:ZL}{fr:Bool}(h:¬zaB n=true):zb0 neg n d fr=false:=by rw[YcA]at h;simp[zb0,h]
def zkK {neg:Bool}{n d:ZL}{fr:Bool}(h:¬zaB d=true):zb0 neg n d fr=false:=by rw[YcA]at h;simp[zb0,h]
def zgX {neg:Bool}{n:ZL}:zb0 neg n [48] true=false:=by simp[zb0]
def zgW {neg:Bool}{n:ZL}:zb0 neg n [49] true=false:=by simp[zb0]
def zgV {neg:Bool}{d:ZL}(h:zaB d=true)(h1:d≠[49]):zb0 neg [48] d true=false:=by
 have hv:=zam (shortN_iff.1 h).1;have:Nat.gcd (valD [48]) (valD d)≠1:=by show Nat.gcd 0 (valD d)≠1;rw[Yck];intro e;rw[e]at hv;exact h1 hv.symm
 simp[zb0,this]
def zec {neg:Bool}{n d:ZL}(h1:zaB n=true)(h2:zaB d=true)(h3:n≠[48])(h4:d≠[48])(h5:d≠[49]):zb0 neg n d true=decide (Nat.gcd (valD n) (valD d)=1):=by simp[zb0,h1,h2,h3,h4,h5]
def s48:zaB [48]=true:=Zd
def s49:zaB [49]=true:=Zd
def ze0 {neg:Bool}{n:ZL}(h1:zaB n=true):zb0 neg n [49] false= !(neg&&decide (n=[48])):=by
 have:Nat.gcd (valD n) (valD [49])=1:=by show Nat.gcd (valD n) 1=1;rw[Ycl]
 simp only[zb0,h1,s49,this,YbC,YaA,Yah,Bool.not_false,YaC,YbD]
def zxn(neg:Bool):zgx neg [48] [49] false=if neg=true then .tup [.bool false,.str [],.str [],.bool false]else .tup [.bool neg,.str [48],.str [49],.bool true]:=by unfold zgx;rw[ze0 s48];cases neg<;>rfl
def zw9(a:ZL)(hl:a.length≤1000000000):PCall prog 122 [.str a] (.ret (zbV a)):=by
 have hΓ:=zg zvj (zg zvi (zg cRGcd_ok zh));refine Xc (rs:=[.tmp 2,.tmp 3,.tmp 4,.tmp 5]) [0,2,3,4,5,6,7,8,9,10,21,27,65,77] [] mixed (hΓ) (zf) call122 func122 rfl ntmps122 rfl ?_;simp(disch:=try exact Zq)only[go_sem];refine⟨fun h=>⟨h,by simpa using h⟩,?_⟩;have hbn:(decide (0<(a.length:Int))&&decide (((a.getD 0 0).toNat:Int)=45))=decide (a.getD 0 0=45):=by
  rw[Ybp];simp only[Yg,Yq];constructor
  ·rintro⟨_,h2⟩;exact YaY.1 (by have:(45:UInt8).toNat=45:=rfl;omega)
  intro h;refine⟨?_,by rw[h];rfl⟩;rcases a with _|⟨c,a⟩
  ·cases h
  simp
 rw[hbn];by_cases hneg:a.getD 0 0=45
 ·have hq:=Yf hneg;rw[hq];have hr:(a.drop 1).length≤1000000000:=by first|exact hl|(simp;omega)
  have hne:0<a.length∨true=false:=by
   rcases a with _|⟨c,a⟩
   ·first|(exact .inr rfl)|cases hneg
   simp
  have p1:=fun i=>zjt (r:=a.drop 1) (i:=i) hq rfl;have p2:=zju (r:=a.drop 1) hq rfl;simp(disch:=try exact Zq)only[go_sem,Ym];try refine⟨⟨by simp at hne;omega,Yb1 _⟩,?_⟩
  generalize a.drop 1=r at*;cases hf:r.findIdx? (· ==47)with
  |some i=>
   rw[p1 i hf];have hx:ixB r 47=(i:Int):=by unfold ixB;rw[hf]
   have hi:i<r.length:=by rw[Ya1]at hf;exact hf.1
   have h0:decide (0≤(i:Int))=true:=Zs;rw[hx,h0];simp(disch:=try exact Zq)only[go_sem,Ym];refine⟨⟨Zo,Zo,Yb1 _⟩,⟨Zo,Zo⟩,fun h=>⟨h,fun h'=>by simp only[h,h'];rfl⟩,fun h=>⟨h,fun h'=>by simp only[h,h'];rfl⟩,?_⟩;generalize r.take i=n;generalize r.drop (i+1)=d;by_cases h1:zaB n=true
   case neg=>
    rw[zbf (zeb h1)]
    simp only[go_sem,h1]
   by_cases h2:zaB d=true
   case neg=>
    rw[zbf (zkK h2)]
    simp only[go_sem,h1,h2]
   by_cases h4:d=[48]
   ·rw[h4,zbf zgX];simp only[go_sem,h1,s48]
   by_cases h5:d=[49]
   ·rw[h5,zbf zgW];simp only[go_sem,h1,s49,h0,Ycv]
   by_cases h3:n=[48]
   ·rw[h3,zbf (zgV h2 h5)];simp only[go_sem,s48,h2,h4,h5,h0,Ycv]
   simp only[go_sem,h1,h2,h3,h4,h5,zgo (shortN_iff.1 h1).1 (shortN_iff.1 h2).1,zba];refine Xk (fun h6=>?_) (fun h6=>?_)
   ·rw[zbf (by rw[zec h1 h2 h3 h4 h5];simpa using h6)];simp only[go_sem]
   rw[zg0 (by rw[zec h1 h2 h3 h4 h5];simpa using h6)];simp only[go_sem]
  |none=>
   rw[p2 hf];have hx:ixB r 47= -1:=by unfold ixB;rw[hf]
   rw[hx];have z49:decide (([49]:ZL)=[48])=false:=Zd;by_cases h1:zaB r=true
   case neg=>
    rw[zbf (zeb h1)]
    simp only[go_sem,h1,s49,z49]
   by_cases h2:r=[48]
   ·rw[h2,zxn];simp only[go_sem,s48,s49,z49,zgo (shortN_iff.1 s48).1 (shortN_iff.1 s49).1,if_true,YS,if_false]
   rw[zg0 (by rw[ze0 h1];simp[h2])];simp only[go_sem,h1,s49,z49,h2,zgo (shortN_iff.1 h1).1 (shortN_iff.1 s49).1]
 have hq:=Ye hneg;rw[hq];have hr:(a).length≤1000000000:=by first|exact hl|(simp;omega)
 have hne:0<a.length∨false=false:=by
  rcases a with _|⟨c,a⟩
  ·first|(exact .inr rfl)|cases hneg
  simp
 have p1:=fun i=>zjt (r:=a) (i:=i) hq rfl;have p2:=zju (r:=a) hq rfl;simp(disch:=try exact Zq)only[go_sem,Ym];try refine⟨⟨by simp at hne;omega,Yb1 _⟩,?_⟩
 generalize a=r at*;cases hf:r.findIdx? (· ==47)with
 |some i=>
  rw[p1 i hf];have hx:ixB r 47=(i:Int):=by unfold ixB;rw[hf]
  have hi:i<r.length:=by rw[Ya1]at hf;exact hf.1
  have h0:decide (0≤(i:Int))=true:=Zs;rw[hx,h0];simp(disch:=try exact Zq)only[go_sem,Ym];refine⟨⟨Zo,Zo,Yb1 _⟩,⟨Zo,Zo⟩,fun h=>⟨h,fun h'=>by simp only[h,h'];rfl⟩,fun h=>⟨h,fun h'=>by simp only[h,h'];rfl⟩,?_⟩;generalize r.take i=n;generalize r.drop (i+1)=d;by_cases h1:zaB n=true
  case neg=>
   rw[zbf (zeb h1)]
   simp only[go_sem,h1]
  by_cases h2:zaB d=true
  case neg=>
   rw[zbf (zkK h2)]
   simp only[go_sem,h1,h2]
  by_cases h4:d=[48]
  ·rw[h4,zbf zgX];simp only[go_sem,h1,s48]
  by_cases h5:d=[49]
  ·rw[h5,zbf zgW];simp only[go_sem,h1,s49,h0,Ycv]
  by_cases h3:n=[48]
  ·rw[h3,zbf (zgV h2 h5)];simp only[go_sem,s48,h2,h4,h5,h0,Ycv]
  simp only[go_sem,h1,h2,h3,h4,h5,zgo (shortN_iff.1 h1).1 (shortN_iff.1 h2).1,zba];refine Xk (fun h6=>?_) (fun h6=>?_)
  ·rw[zbf (by rw[zec h1 h2 h3 h4 h5];simpa using h6)];simp only[go_sem]
  rw[zg0 (by rw[zec h1 h2 h3 h4 h5];simpa using h6)];simp only[go_sem]
 |none=>
  rw[p2 hf];have hx:ixB r 47= -1:=by unfold ixB;rw[hf]
  rw[hx];have z49:decide (([49]:ZL)=[48])=false:=Zd;by_cases h1:zaB r=true
  case neg=>
   rw[zbf (zeb h1)]
   simp only[go_sem,h1,s49,z49]
  by_cases h2:r=[48]
  ·rw[h2,zxn];simp only[go_sem,s48,s49,z49,zgo (shortN_iff.1 s48).1 (shortN_iff.1 s49).1,if_true,YS,if_false]
  rw[zg0 (by rw[ze0 h1];simp[h2])];simp only[go_sem,h1,s49,z49,h2,zgo (shortN_iff.1 h1).1 (shortN_iff.1 s49).1]
def zlH:ZV:=zC (fun a:ZL=>[.str a]) (fun a=>a.length≤1000000000) fun a=>.ret (zbV a)
def zjU(a:ZL)(h:a.length≤1000000000):zlH [.str a]=some (.ret (zbV a)):=zo (pat:=fun a:ZL=>[V.str a]) (fun x y h=>by simpa using h) a h
def zjT:ZC zlH 122:=zn fun a h=>zw9 a h
def partsV_s {a:ZL}{s:Bool}{n d:Nat}(hr:ratP a=some (s,n,d)):zbV a=.tup [.bool s,.str (dec n),.str (dec d),.bool true]:=by unfold zbV;generalize ratP a=q at hr;subst hr;rfl
def partsV_n {a:ZL}(hr:ratP a=none):zbV a=.tup [.bool false,.str [],.str [],.bool false]:=by unfold zbV;generalize ratP a=q at hr;subst hr;rfl
@[go_sem]def cRParts_s {a:ZL}{s:Bool}{n d:Nat}(hr:ratP a=some (s,n,d))(h:a.length≤1000000000):zlH [.str a]=some (.ret (.tup [.bool s,.str (dec n),.str (dec d),.bool true])):=
 (zjU a h).trans (YaZ (fun v=>some (PR.ret v)) (partsV_s hr))
@[go_sem]def cRParts_n {a:ZL}(hr:ratP a=none)(h:a.length≤1000000000):zlH [.str a]=some (.ret (.tup [.bool false,.str [],.str [],.bool false])):=
 (zjU a h).trans (YaZ (fun v=>some (PR.ret v)) (partsV_n hr))
def ztF(a:ZL)(h:a.length≤1000000000):PCall prog 102 [.str a] (.ret (.bool (ratP a).isSome)):=by
 refine Xc (rs:=[.tmp 2]) [0,2,6] [] mixed (zg zjT zh) (zf) call102 func102 rfl ntmps102 rfl ?_;cases hr:ratP a with
 |none=>simp(disch:=try exact Zq)only[go_sem,hr,Ycx]
 |some q=>obtain⟨s,n,d⟩:=q;simp(disch:=try exact Zq)only[go_sem,hr,Option.isSome_some]
def zsf:ZV:=zC (fun a:ZL=>[.str a]) (fun a=>a.length≤1000000000) fun a=>.ret (.bool (ratP a).isSome)
@[go_sem]def cR3Valid_eq(a:ZL)(h:a.length≤1000000000):zsf [.str a]=some (.ret (.bool (ratP a).isSome)):=zo (pat:=fun a:ZL=>[V.str a]) (fun x y h=>by simpa using h) a h
theorem zqe:ZC zsf 102:=zn fun a h=>ztF a h
attribute [go_sem] List.getElem?_cons_zero List.getElem?_cons_succ
def numV(s:Bool)(n d:ZL):V:=.agg [.bool s,.str n,.str d]
def zee(a:ZL):V:=match ratP a with
 |some (s,n,d)=>.tup [numV s (dec n) (dec d),.bool true]
 |none=>.tup [numV false [] [],.bool false]
def zeO(neg:Bool)(n d:ZL)(fr:Bool):V:=if zb0 neg n d fr=true then .tup [numV neg n d,.bool true]else .tup [numV false [] [],.bool false]
def zmP(a:ZL):zee a=zeO (zD a).1 (zD a).2.1 (zD a).2.2.1 (zD a).2.2.2:=by
 unfold zee zeO ratP;split
 ·rename_i h;split at h
  ·rename_i hk;simp only[YJ,Ybr]at h;obtain⟨rfl,rfl,rfl⟩:=h;rw[Yi hk];simp only[zb0,Yg]at hk;rw[zam (shortN_iff.1 hk.1.1.1.1).1,zam (shortN_iff.1 hk.1.1.1.2).1]
  cases h
 rename_i h;split at h
 ·cases h
 rename_i hk;rw[Yh hk]
def zjv {a:ZL}{neg:Bool}{r:ZL}{i:Nat}(h1:decide (a.getD 0 0=45)=neg)(h2:r=if neg=true then a.drop 1 else a)(h3:r.findIdx? (· ==47)=some i):zee a=zeO neg (r.take i) (r.drop (i+1)) true:=by
 rw[zmP];have:zD a=(neg,r.take i,r.drop (i+1),true):=by unfold zD;simp only;rw[h1,←h2,h3]
 rw[this]
def zjw {a:ZL}{neg:Bool}{r:ZL}(h1:decide (a.getD 0 0=45)=neg)(h2:r=if neg=true then a.drop 1 else a)(h3:r.findIdx? (· ==47)=none):zee a=zeO neg r [49] false:=by
 rw[zmP];have:zD a=(neg,r,[49],false):=by unfold zD;simp only;rw[h1,←h2,h3]
 rw[this]
def zg1 {neg:Bool}{n d:ZL}{fr:Bool}(h:zb0 neg n d fr=true):zeO neg n d fr=.tup [numV neg n d,.bool true]:=Yi h
def zbg {neg:Bool}{n d:ZL}{fr:Bool}(h:zb0 neg n d fr=false):zeO neg n d fr=.tup [numV false [] [],.bool false]:=Yh (by rw[h];decide)
def pref45(a:ZL):List.isPrefixOf [45] a=decide (a.getD 0 0=45):=by
 rcases a with _|⟨c,a⟩
 ·rfl
 show (45==c&&true)=decide (c=45);rw[YaC,Ybp];simp only[beq_iff_eq,Yq];exact eq_comm
def zf3(n d:ZL):(!zH n|| !zH d||decide (400<(n.length:Int))||decide (400<(d.length:Int)))= !(zaB n&&zaB d):=by
 rw[Ybp];simp only[zaB,Yao,Yam,Bool.and_eq_false_imp,Yq,Yg,Yay];constructor
 ·rintro(((h|h)|h)|h) h1 h2
  ·rw[h]at h1;exact absurd h1.1 Zd
  ·rw[h]at h2;exact absurd h2 Zd
  ·omega
  omega
 intro h;by_cases h1:zH n=true
 ·by_cases h2:zH d=true
  ·by_cases h3:n.length≤400
   ·have:=h ⟨h1,h3⟩ h2;exact .inr Zo
   exact .inl (.inr Zo)
  exact .inl (.inl (.inr (by simpa using h2)))
 exact .inl (.inl (.inl (by simpa using h1)))
def zmv(n:ZL):(!zH n||decide (400<(n.length:Int)))= !zaB n:=by have:=zf3 n [49];have h1:zH [49]=true:=Zd;have h2:decide (400<(([49]:ZL).length:Int))=false:=Zd;rw[h1,h2,s49,Ybj,YcH,YcH,YaC]at this;exact this
def parse_ok(a:ZL)(hl:a.length≤1000000000):PCall prog 132 [.str a] (.ret (zee a)):=by
 have hΓ:=zg zqk (zg cCut_ok (zg zdt (zg cNGcd_ok zh)));refine Xc (rs:=[.cell 2 161,.tmp 3]) [0,2,3,4,5,6,7,8,9,10,23,41,58,71] [] mixed (hΓ) (zf) call132 func132 rfl ntmps132 rfl ?_;by_cases hneg:a.getD 0 0=45
 ·have hq:=Yf hneg;have hr:(a.drop 1).length≤1000000000:=by first|exact hl|(simp;omega)
  have p1:=fun i=>zjv (r:=a.drop 1) (i:=i) hq rfl;have p2:=zjw (r:=a.drop 1) hq rfl;have hcp:zbu a [45]=.tup [.str (a.drop 1),.bool true]:=by unfold zbu;rw[pref45,hq];rfl
  simp(disch:=try exact Zq)only[go_sem,hcp];generalize a.drop 1=r at*;cases hf:r.findIdx? (· ==47)with
  |some i=>
   rw[p1 i hf];have hct:cutV r 47=.tup [.str (r.take i),.str (r.drop (i+1)),.bool true]:=by unfold cutV;rw[hf]
   generalize r.take i=n at*;generalize r.drop (i+1)=d at*;simp only[go_sem,hct];rw[zf3];by_cases h1:zaB n=true
   case neg=>
    rw[zbg (zeb h1)]
    simp only[go_sem,h1,Yah,numV]
    exact .pure (by simp[zaf,zN,zS])
   by_cases h2:zaB d=true
   case neg=>
    rw[zbg (zkK h2)]
    simp only[go_sem,h1,h2,YbO,numV]
    exact .pure (by simp[zaf,zN,zS])
   by_cases h4:d=[48]
   ·rw[h4,zbg zgX];simp only[go_sem,h1,s48,YbC,numV];exact .pure (by simp[zaf,zN,zS])
   by_cases h5:d=[49]
   ·rw[h5,zbg zgW];simp only[go_sem,h1,s49,YbC,numV];first
     |exact .pure (by simp[zaf,zN,zS])
     |exact⟨fun h=>⟨h,fun _=>by rw[h];rfl⟩,.pure (by simp[zaf,zN,zS])⟩
   by_cases h3:n=[48]
   ·rw[h3,zbg (zgV h2 h5)];have hg:decide (Nat.gcd (valD [48]) (valD d)=1)=false:=by rw[Yay,show valD [48]=0 from rfl,Yck];intro e;have hv:=zam (shortN_iff.1 h2).1;rw[e]at hv;exact h5 hv.symm
    simp only[go_sem,s48,h2,h4,h5,YbC,numV,zet (shortN_iff.1 s48).1 (shortN_iff.1 h2).1,zba,hg];exact .pure (by simp[zaf,zN,zS])
   simp only[go_sem,h1,h2,h3,h4,h5,zet (shortN_iff.1 h1).1 (shortN_iff.1 h2).1,zba,YbC];refine Xk (fun h6=>?_) (fun h6=>?_)
   ·rw[zbg (by rw[zec h1 h2 h3 h4 h5];simpa using h6)];simp only[go_sem,numV];exact .pure (by simp[zaf,zN,zS])
   rw[zg1 (by rw[zec h1 h2 h3 h4 h5];simpa using h6)];simp only[go_sem,numV];exact .pure (by simp[zaf,zN,zS])
  |none=>
   rw[p2 hf];have hct:cutV r 47=.tup [.str r,.str [],.bool false]:=by unfold cutV;rw[hf]
   have v49:zH [49]=true:=Zd;simp only[go_sem,hct,v49];rw[zmv];by_cases h1:zaB r=true
   case neg=>
    rw[zbg (zeb h1)]
    simp only[go_sem,h1,numV]
    exact .pure (by simp[zaf,zN,zS])
   have g1:decide (Nat.gcd (valD r) (valD [49])=1)=true:=by rw[Yq,show valD [49]=1 from rfl,Ycl]
   by_cases h3:r=[48]
   ·have hq2:zeO true r [49] false=if true=true then .tup [numV false [] [],.bool false]else .tup [numV true r [49],.bool true]:=by unfold zeO;rw[ze0 h1,h3];rfl
    rw[hq2];rw[h3]at g1 ⊢;simp only[go_sem,s48,numV,zet (shortN_iff.1 s48).1 (shortN_iff.1 s49).1,zba,g1,if_true,YS,if_false];exact .pure (by simp[zaf,zN,zS])
   rw[zg1 (by rw[ze0 h1];simp[h3])];simp only[go_sem,h1,h3,numV,zet (shortN_iff.1 h1).1 (shortN_iff.1 s49).1,zba,g1];exact .pure (by simp[zaf,zN,zS])
 have hq:=Ye hneg;have hr:(a).length≤1000000000:=by first|exact hl|(simp;omega)
 have p1:=fun i=>zjv (r:=a) (i:=i) hq rfl;have p2:=zjw (r:=a) hq rfl;have hcp:zbu a [45]=.tup [.str (a),.bool false]:=by unfold zbu;rw[pref45,hq];rfl
 simp(disch:=try exact Zq)only[go_sem,hcp];generalize a=r at*;cases hf:r.findIdx? (· ==47)with
 |some i=>
  rw[p1 i hf];have hct:cutV r 47=.tup [.str (r.take i),.str (r.drop (i+1)),.bool true]:=by unfold cutV;rw[hf]
  generalize r.take i=n at*;generalize r.drop (i+1)=d at*;simp only[go_sem,hct];rw[zf3];by_cases h1:zaB n=true
  case neg=>
   rw[zbg (zeb h1)]
   simp only[go_sem,h1,Yah,numV]
   exact .pure (by simp[zaf,zN,zS])
  by_cases h2:zaB d=true
  case neg=>
   rw[zbg (zkK h2)]
   simp only[go_sem,h1,h2,YbO,numV]
   exact .pure (by simp[zaf,zN,zS])
  by_cases h4:d=[48]
  ·rw[h4,zbg zgX];simp only[go_sem,h1,s48,YbC,numV];exact .pure (by simp[zaf,zN,zS])
  by_cases h5:d=[49]
  ·rw[h5,zbg zgW];simp only[go_sem,h1,s49,YbC,numV];first
    |exact .pure (by simp[zaf,zN,zS])
    |exact⟨fun h=>⟨h,fun _=>by rw[h];rfl⟩,.pure (by simp[zaf,zN,zS])⟩
  by_cases h3:n=[48]
  ·rw[h3,zbg (zgV h2 h5)];have hg:decide (Nat.gcd (valD [48]) (valD d)=1)=false:=by rw[Yay,show valD [48]=0 from rfl,Yck];intro e;have hv:=zam (shortN_iff.1 h2).1;rw[e]at hv;exact h5 hv.symm
   simp only[go_sem,s48,h2,h4,h5,YbC,numV,zet (shortN_iff.1 s48).1 (shortN_iff.1 h2).1,zba,hg];exact .pure (by simp[zaf,zN,zS])
  simp only[go_sem,h1,h2,h3,h4,h5,zet (shortN_iff.1 h1).1 (shortN_iff.1 h2).1,zba,YbC];refine Xk (fun h6=>?_) (fun h6=>?_)
  ·rw[zbg (by rw[zec h1 h2 h3 h4 h5];simpa using h6)];simp only[go_sem,numV];exact .pure (by simp[zaf,zN,zS])
  rw[zg1 (by rw[zec h1 h2 h3 h4 h5];simpa using h6)];simp only[go_sem,numV];exact .pure (by simp[zaf,zN,zS])
 |none=>
  rw[p2 hf];have hct:cutV r 47=.tup [.str r,.str [],.bool false]:=by unfold cutV;rw[hf]
  have v49:zH [49]=true:=Zd;simp only[go_sem,hct,v49];rw[zmv];by_cases h1:zaB r=true
  case neg=>
   rw[zbg (zeb h1)]
   simp only[go_sem,h1,numV]
   exact .pure (by simp[zaf,zN,zS])
  have g1:decide (Nat.gcd (valD r) (valD [49])=1)=true:=by rw[Yq,show valD [49]=1 from rfl,Ycl]
  by_cases h3:r=[48]
  ·have hq2:zeO false r [49] false=if false=true then .tup [numV false [] [],.bool false]else .tup [numV false r [49],.bool true]:=by unfold zeO;rw[ze0 h1,h3];rfl
   rw[hq2];rw[h3]at g1 ⊢;simp only[go_sem,s48,numV,zet (shortN_iff.1 s48).1 (shortN_iff.1 s49).1,zba,g1,if_true,YS,if_false];exact .pure (by simp[zaf,zN,zS])
  rw[zg1 (by rw[ze0 h1];simp[h3])];simp only[go_sem,h1,h3,numV,zet (shortN_iff.1 h1).1 (shortN_iff.1 s49).1,zba,g1];exact .pure (by simp[zaf,zN,zS])
end Go.Proofs
