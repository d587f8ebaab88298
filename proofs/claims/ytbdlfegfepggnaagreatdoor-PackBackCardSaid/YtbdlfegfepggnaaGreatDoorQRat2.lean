/- rat: parse, Valid, Cmp. -/
import Derived.Test.YtbdlfegfepggnaaGreatDoorQNat6
import Derived.ProofKit
import Derived.Lib.SmallJoins
import Derived.Deep.Slices
import Derived.Deep.Strs
import Derived.Handed
set_option linter.all false
set_option maxHeartbeats 16000000
set_option maxRecDepth 100000
noncomputable section
namespace Go.Proofs
open Tryz Go.Ab Go.Pl
attribute [go_sem] List.getElem?_cons_zero List.getElem?_cons_succ
def numV(s:Bool)(n d:ZL):V:=.agg [.bool s,.str n,.str d]
def zdD(a:ZL):V:=match ratP a with
 |some (s,n,d)=>.tup [numV s (dec n) (dec d),.bool true]
 |none=>.tup [numV false [] [],.bool false]
def zec(neg:Bool)(n d:ZL)(fr:Bool):V:=if zbI neg n d fr=true then .tup [numV neg n d,.bool true]else .tup [numV false [] [],.bool false]
def zlA(a:ZL):zdD a=zec (zH a).1 (zH a).2.1 (zH a).2.2.1 (zH a).2.2.2:=by
 unfold zdD zec ratP;split
 ·rename_i h;split at h
  ·rename_i hk;simp only[Yx,Ybc]at h;obtain⟨rfl,rfl,rfl⟩:=h;rw[Yi hk];simp only[zbI,Yj]at hk;rw[zaf (shortN_iff.1 hk.1.1.1.1).1,zaf (shortN_iff.1 hk.1.1.1.2).1]
  cases h
 rename_i h;split at h
 ·cases h
 rename_i hk;rw[Ye hk]
def ziy {a:ZL}{neg:Bool}{r:ZL}{i:Nat}(h1:decide (a.getD 0 0=45)=neg)(h2:r=if neg=true then a.drop 1 else a)(h3:r.findIdx? (· ==47)=some i):zdD a=zec neg (r.take i) (r.drop (i+1)) true:=by
 rw[zlA];have:zH a=(neg,r.take i,r.drop (i+1),true):=by unfold zH;simp only;rw[h1,←h2,h3]
 rw[this]
def ziz {a:ZL}{neg:Bool}{r:ZL}(h1:decide (a.getD 0 0=45)=neg)(h2:r=if neg=true then a.drop 1 else a)(h3:r.findIdx? (· ==47)=none):zdD a=zec neg r [49] false:=by
 rw[zlA];have:zH a=(neg,r,[49],false):=by unfold zH;simp only;rw[h1,←h2,h3]
 rw[this]
def zgb {neg:Bool}{n d:ZL}{fr:Bool}(h:zbI neg n d fr=true):zec neg n d fr=.tup [numV neg n d,.bool true]:=Yi h
def zaX {neg:Bool}{n d:ZL}{fr:Bool}(h:zbI neg n d fr=false):zec neg n d fr=.tup [numV false [] [],.bool false]:=Ye (by rw[h];decide)
def pref45(a:ZL):List.isPrefixOf [45] a=decide (a.getD 0 0=45):=by
 rcases a with _|⟨c,a⟩
 ·rfl
 show (45==c&&true)=decide (c=45);rw[Yav,Ybn];simp only[beq_iff_eq,Yn];exact eq_comm
def zfq(n d:ZL):(!zX n|| !zX d||decide (400<(n.length:Int))||decide (400<(d.length:Int)))= !(zaW n&&zaW d):=by
 rw[Ybn];simp only[zaW,Yaj,YaV,Bool.and_eq_false_imp,Yn,Yj,Yat];constructor
 ·rintro(((h|h)|h)|h) h1 h2
  ·rw[h]at h1;exact absurd h1.1 Zd
  ·rw[h]at h2;exact absurd h2 Zd
  ·omega
  omega
 intro h;by_cases h1:zX n=true
 ·by_cases h2:zX d=true
  ·by_cases h3:n.length≤400
   ·have:=h ⟨h1,h3⟩ h2;exact .inr Zo
   exact .inl (.inr Zo)
  exact .inl (.inl (.inr (by simpa using h2)))
 exact .inl (.inl (.inl (by simpa using h1)))
def zlh(n:ZL):(!zX n||decide (400<(n.length:Int)))= !zaW n:=by have:=zfq n [49];have h1:zX [49]=true:=Zd;have h2:decide (400<(([49]:ZL).length:Int))=false:=Zd;rw[h1,h2,s49,YbN,Bool.or_false,Bool.or_false,Yav]at this;exact this
def parse_ok(a:ZL)(hl:a.length≤1000000000):PCall prog 132 [.str a] (.ret (zdD a)):=by
 have hΓ:=zf zoC (zf cCut_ok (zf zcS (zf cNGcd_ok zh)));refine Xa (rs:=[.cell 2 161,.tmp 3]) [0,2,3,4,5,6,7,8,9,10,23,41,58,71] [] mixed (hΓ) (zg) call132 func132 rfl ntmps132 rfl ?_;by_cases hneg:a.getD 0 0=45
 ·have hq:=Yf hneg;have hr:(a.drop 1).length≤1000000000:=by first|exact hl|(simp;omega)
  have p1:=fun i=>ziy (r:=a.drop 1) (i:=i) hq rfl;have p2:=ziz (r:=a.drop 1) hq rfl;have hcp:zbd a [45]=.tup [.str (a.drop 1),.bool true]:=by unfold zbd;rw[pref45,hq];rfl
  simp(disch:=try exact Zq)only[go_sem,hcp];generalize a.drop 1=r at*;cases hf:r.findIdx? (· ==47)with
  |some i=>
   rw[p1 i hf];have hct:cutV r 47=.tup [.str (r.take i),.str (r.drop (i+1)),.bool true]:=by unfold cutV;rw[hf]
   generalize r.take i=n at*;generalize r.drop (i+1)=d at*;simp only[go_sem,hct];rw[zfq];by_cases h1:zaW n=true
   case neg=>
    rw[zaX (zjF h1)]
    simp only[go_sem,h1,Yaq,numV]
    exact .pure (by simp[zac,zM,zO])
   by_cases h2:zaW d=true
   case neg=>
    rw[zaX (zuH h2)]
    simp only[go_sem,h1,h2,YbR,numV]
    exact .pure (by simp[zac,zM,zO])
   by_cases h4:d=[48]
   ·rw[h4,zaX zpv];simp only[go_sem,h1,s48,Ybf,numV];exact .pure (by simp[zac,zM,zO])
   by_cases h5:d=[49]
   ·rw[h5,zaX zpu];simp only[go_sem,h1,s49,Ybf,numV];first
     |exact .pure (by simp[zac,zM,zO])
     |exact⟨fun h=>⟨h,fun _=>by rw[h];rfl⟩,.pure (by simp[zac,zM,zO])⟩
   by_cases h3:n=[48]
   ·rw[h3,zaX (zpt h2 h5)];have hg:decide (Nat.gcd (valD [48]) (valD d)=1)=false:=by rw[Yat,show valD [48]=0 from rfl,YbT];intro e;have hv:=zaf (shortN_iff.1 h2).1;rw[e]at hv;exact h5 hv.symm
    simp only[go_sem,s48,h2,h4,h5,Ybf,numV,zdO (shortN_iff.1 s48).1 (shortN_iff.1 h2).1,zbs,hg];exact .pure (by simp[zac,zM,zO])
   simp only[go_sem,h1,h2,h3,h4,h5,zdO (shortN_iff.1 h1).1 (shortN_iff.1 h2).1,zbs,Ybf];refine Xl (fun h6=>?_) (fun h6=>?_)
   ·rw[zaX (by rw[zjG h1 h2 h3 h4 h5];simpa using h6)];simp only[go_sem,numV];exact .pure (by simp[zac,zM,zO])
   rw[zgb (by rw[zjG h1 h2 h3 h4 h5];simpa using h6)];simp only[go_sem,numV];exact .pure (by simp[zac,zM,zO])
  |none=>
   rw[p2 hf];have hct:cutV r 47=.tup [.str r,.str [],.bool false]:=by unfold cutV;rw[hf]
   have v49:zX [49]=true:=Zd;simp only[go_sem,hct,v49];rw[zlh];by_cases h1:zaW r=true
   case neg=>
    rw[zaX (zjF h1)]
    simp only[go_sem,h1,numV]
    exact .pure (by simp[zac,zM,zO])
   have g1:decide (Nat.gcd (valD r) (valD [49])=1)=true:=by rw[Yn,show valD [49]=1 from rfl,YbU]
   by_cases h3:r=[48]
   ·have hq2:zec true r [49] false=if true=true then .tup [numV false [] [],.bool false]else .tup [numV true r [49],.bool true]:=by unfold zec;rw[zjH h1,h3];rfl
    rw[hq2];rw[h3]at g1 ⊢;simp only[go_sem,s48,numV,zdO (shortN_iff.1 s48).1 (shortN_iff.1 s49).1,zbs,g1,if_true,Y2,if_false];exact .pure (by simp[zac,zM,zO])
   rw[zgb (by rw[zjH h1];simp[h3])];simp only[go_sem,h1,h3,numV,zdO (shortN_iff.1 h1).1 (shortN_iff.1 s49).1,zbs,g1];exact .pure (by simp[zac,zM,zO])
 have hq:=Yd hneg;have hr:(a).length≤1000000000:=by first|exact hl|(simp;omega)
 have p1:=fun i=>ziy (r:=a) (i:=i) hq rfl;have p2:=ziz (r:=a) hq rfl;have hcp:zbd a [45]=.tup [.str (a),.bool false]:=by unfold zbd;rw[pref45,hq];rfl
 simp(disch:=try exact Zq)only[go_sem,hcp];generalize a=r at*;cases hf:r.findIdx? (· ==47)with
 |some i=>
  rw[p1 i hf];have hct:cutV r 47=.tup [.str (r.take i),.str (r.drop (i+1)),.bool true]:=by unfold cutV;rw[hf]
  generalize r.take i=n at*;generalize r.drop (i+1)=d at*;simp only[go_sem,hct];rw[zfq];by_cases h1:zaW n=true
  case neg=>
   rw[zaX (zjF h1)]
   simp only[go_sem,h1,Yaq,numV]
   exact .pure (by simp[zac,zM,zO])
  by_cases h2:zaW d=true
  case neg=>
   rw[zaX (zuH h2)]
   simp only[go_sem,h1,h2,YbR,numV]
   exact .pure (by simp[zac,zM,zO])
  by_cases h4:d=[48]
  ·rw[h4,zaX zpv];simp only[go_sem,h1,s48,Ybf,numV];exact .pure (by simp[zac,zM,zO])
  by_cases h5:d=[49]
  ·rw[h5,zaX zpu];simp only[go_sem,h1,s49,Ybf,numV];first
    |exact .pure (by simp[zac,zM,zO])
    |exact⟨fun h=>⟨h,fun _=>by rw[h];rfl⟩,.pure (by simp[zac,zM,zO])⟩
  by_cases h3:n=[48]
  ·rw[h3,zaX (zpt h2 h5)];have hg:decide (Nat.gcd (valD [48]) (valD d)=1)=false:=by rw[Yat,show valD [48]=0 from rfl,YbT];intro e;have hv:=zaf (shortN_iff.1 h2).1;rw[e]at hv;exact h5 hv.symm
   simp only[go_sem,s48,h2,h4,h5,Ybf,numV,zdO (shortN_iff.1 s48).1 (shortN_iff.1 h2).1,zbs,hg];exact .pure (by simp[zac,zM,zO])
  simp only[go_sem,h1,h2,h3,h4,h5,zdO (shortN_iff.1 h1).1 (shortN_iff.1 h2).1,zbs,Ybf];refine Xl (fun h6=>?_) (fun h6=>?_)
  ·rw[zaX (by rw[zjG h1 h2 h3 h4 h5];simpa using h6)];simp only[go_sem,numV];exact .pure (by simp[zac,zM,zO])
  rw[zgb (by rw[zjG h1 h2 h3 h4 h5];simpa using h6)];simp only[go_sem,numV];exact .pure (by simp[zac,zM,zO])
 |none=>
  rw[p2 hf];have hct:cutV r 47=.tup [.str r,.str [],.bool false]:=by unfold cutV;rw[hf]
  have v49:zX [49]=true:=Zd;simp only[go_sem,hct,v49];rw[zlh];by_cases h1:zaW r=true
  case neg=>
   rw[zaX (zjF h1)]
   simp only[go_sem,h1,numV]
   exact .pure (by simp[zac,zM,zO])
  have g1:decide (Nat.gcd (valD r) (valD [49])=1)=true:=by rw[Yn,show valD [49]=1 from rfl,YbU]
  by_cases h3:r=[48]
  ·have hq2:zec false r [49] false=if false=true then .tup [numV false [] [],.bool false]else .tup [numV false r [49],.bool true]:=by unfold zec;rw[zjH h1,h3];rfl
   rw[hq2];rw[h3]at g1 ⊢;simp only[go_sem,s48,numV,zdO (shortN_iff.1 s48).1 (shortN_iff.1 s49).1,zbs,g1,if_true,Y2,if_false];exact .pure (by simp[zac,zM,zO])
  rw[zgb (by rw[zjH h1];simp[h3])];simp only[go_sem,h1,h3,numV,zdO (shortN_iff.1 h1).1 (shortN_iff.1 s49).1,zbs,g1];exact .pure (by simp[zac,zM,zO])
end Go.Proofs

namespace Go.Proofs
open Go.Ab Go.Pl
def zps {a:ZL}{s:Bool}{n d:Nat}(h:ratP a=some (s,n,d)):(dec n).length≤400∧(dec d).length≤400∧0<d:=by obtain⟨h0,_,h1,h2⟩:=za7 h;exact⟨h1,h2,h0⟩
end Go.Proofs

namespace Go.Proofs
open Tryz Go.Ab Go.Pl
def parseV_s {a:ZL}{s:Bool}{n d:Nat}(hr:ratP a=some (s,n,d)):zdD a=.tup [.agg [.bool s,.str (dec n),.str (dec d)],.bool true]:=by unfold zdD;generalize ratP a=q at hr;subst hr;rfl
def parseV_n {a:ZL}(hr:ratP a=none):zdD a=.tup [.agg [.bool false,.str [],.str []],.bool false]:=by unfold zdD;generalize ratP a=q at hr;subst hr;rfl
def zqj:ZV:=zL (fun a:ZL=>[.str a]) (fun a=>a.length≤1000000000) fun a=>.ret (zdD a)
def zmr(a:ZL)(h:a.length≤1000000000):zqj [.str a]=some (.ret (zdD a)):=zo (pat:=fun a:ZL=>[V.str a]) (fun x y h=>by simpa using h) a h
def zmq:ZC zqj 132:=zn fun a h=>parse_ok a h
@[go_sem]def cParse_s {a:ZL}{s:Bool}{n d:Nat}(hr:ratP a=some (s,n,d))(h:a.length≤1000000000):zqj [.str a]=some (.ret (.tup [.agg [.bool s,.str (dec n),.str (dec d)],.bool true])):=
 (zmr a h).trans (Ya1 (fun v=>some (PR.ret v)) (parseV_s hr))
@[go_sem]def cParse_n {a:ZL}(hr:ratP a=none)(h:a.length≤1000000000):zqj [.str a]=some (.ret (.tup [.agg [.bool false,.str [],.str []],.bool false])):=
 (zmr a h).trans (Ya1 (fun v=>some (PR.ret v)) (parseV_n hr))
def znt(a:ZL)(h:a.length≤1000000000):PCall prog 107 [.str a] (.ret (.bool (ratP a).isSome)):=by
 refine Xa (rs:=[.tmp 2]) [0,2] [] mixed (zf zmq zh) (zg) call107 func107 rfl ntmps107 rfl ?_;cases hr:ratP a with
 |none=>simp(disch:=try exact Zq)only[go_sem,hr,Option.isSome_none]
 |some q=>obtain⟨s,n,d⟩:=q;simp(disch:=try exact Zq)only[go_sem,hr,Option.isSome_some]
def zmp:ZV:=zL (fun a:ZL=>[.str a]) (fun a=>a.length≤1000000000) fun a=>.ret (.bool (ratP a).isSome)
@[go_sem]def zcp(a:ZL)(h:a.length≤1000000000):zmp [.str a]=some (.ret (.bool (ratP a).isSome)):=zo (pat:=fun a:ZL=>[V.str a]) (fun x y h=>by simpa using h) a h
theorem zfP:ZC zmp 107:=zn fun a h=>znt a h
def zuJ(a b:ZL)(la:a.length≤1000000000)(lb:b.length≤1000000000):PCall prog 136 [.str a,.str b] (.ret (.int .i64 (zbl a b))):=by
 have hΓ:=zf zmq (zf cNMul_ok (zf zql (zf zxx zh)));refine Xa (rs:=[.tmp 4]) [0,1,4,5,6,7,8,9,10,26,52,55] [] mixed (hΓ) (zg) call136 func136 rfl ntmps136 rfl ?_;cases ha:ratP a with
 |none=>
  rw[zuL b ha];cases hb:ratP b with
  |none=>simp(disch:=try exact Zq)only[go_sem,ha,hb]
  |some y=>obtain⟨q,n,f⟩:=y;simp(disch:=try exact Zq)only[go_sem,ha,hb]
 |some x=>
  obtain⟨p,m,d⟩:=x;cases hb:ratP b with
  |none=>rw[zuK a hb];simp(disch:=try exact Zq)only[go_sem,ha,hb]
  |some y=>
   obtain⟨q,n,f⟩:=y;rw[zf8 ha hb];obtain⟨lm,ld,_⟩:=zps ha;obtain⟨ln,lf,_⟩:=zps hb;have l1:=zhz lm lf;have l2:=zhz ln ld;simp(disch:=try exact Zq)only[go_sem,ha,hb];refine AXk.intro Zk ?_;have hz:decide (dec (sumS p (m*f) (!q) (n*d)).2=[48])=decide ((sumS p (m*f) (!q) (n*d)).2=0):=by simp only[dec_is_zero]
   simp(disch:=try exact Zq)only[go_sem];rw[hz];refine Xc (fun h1=>?_) (fun h1=>?_)
   ·simp(disch:=try exact Zq)only[go_sem,h1]
   cases h2:(sumS p (m*f) (!q) (n*d)).1
   ·simp(disch:=try exact Zq)only[go_sem,h1,h2,Y2]
   simp(disch:=try exact Zq)only[go_sem,h1,h2]
def zxp:ZV:=zL (fun p:ZL×ZL=>[.str p.1,.str p.2]) (fun p=>p.1.length≤1000000000∧p.2.length≤1000000000) (fun p=>.ret (.int .i64 (zbl p.1 p.2)))
def zsY:ZC zxp 136:=zn fun p h=>zuJ p.1 p.2 h.1 h.2
@[go_sem]def cRatCmp_eq(a b:ZL)(la:a.length≤1000000000)(lb:b.length≤1000000000):zxp [.str a,.str b]=some (.ret (.int .i64 (zbl a b))):=zo (fun p q h=>by simp at h;exact YaC h.1 h.2) (a,b) ⟨la,lb⟩
end Go.Proofs

namespace Go.Ab
structure Row(α:Type) where
 enc:α→ZA
 n:Nat
 dflt:α
 len:∀a,(enc a).length=n
 pos:0<n
 pure:∀a,∀x∈enc a,Pure x
 one:∀a,(enc a).all V.one=true
 inj:∀a b,enc a=enc b→a=b
namespace Row
variable {α:Type}(R:Row α)
def cells(l:List α):ZA:=l.flatMap R.enc
def nth(l:List α)(i:Nat):α:=l.getD i R.dflt
theorem zw1:R.cells []=[]:=rfl
theorem cells_cons(e:α)(l:List α):R.cells (e::l)=R.enc e++R.cells l:=rfl
def cells_append(l r:List α):R.cells (l++r)=R.cells l++R.cells r:=by simp[cells]
def len_cells:∀l:List α,(R.cells l).length=l.length*R.n
 |[]=>by simp[cells]
 |e::l=>by rw[cells_cons,Yg,R.len,len_cells l,Yv,Y5,YbH,Nat.add_comm]
def ziU:∀(l:List α)(i:Nat),(R.cells l).drop (i*R.n)=R.cells (l.drop i)
 |l,0=>Zs
 |[],i+1=>by simp[zw1]
 |e::l,i+1=>by rw[cells_cons,Y5,YbH,Nat.add_comm,←YaR,show R.n=(R.enc e).length by rw[R.len],List.drop_left,R.len];exact ziU l i
def drop_nth:∀(l:List α)(i:Nat),i<l.length→l.drop i=R.nth l i::l.drop (i+1)
 |[],_,h=>by simp at h
 |e::l,0,_=>rfl
 |e::l,i+1,h=>by have:=drop_nth l i (by simpa using h);simpa[nth]using this
def take_nth(l:List α)(i:Nat)(h:i<l.length):l.take (i+1)=l.take i++[R.nth l i]:=by rw[YaW,nth,Ya,Yb h];rfl
def nth_mem {l:List α}{i:Nat}(h:i<l.length):R.nth l i∈l:=by unfold nth;rw[Ya,Yb h];exact Y1 h
def at_(l:List α)(i:Nat)(h:i<l.length):(R.cells l).drop (i*R.n)=R.enc (R.nth l i)++R.cells (l.drop (i+1)):=by rw[ziU,R.drop_nth l i h,cells_cons]
def pure_cells(l:List α):∀x∈R.cells l,Pure x:=fun x h=>by obtain⟨a,_,h⟩:=Yay.1 h;exact R.pure a x h
def pure_cellsP(l:List α):(∀x∈R.cells l,Pure x)↔True:=⟨fun _=>trivial,fun _=>R.pure_cells l⟩
def one_cells(l:List α):(R.cells l).all V.one=true:=Yl.2 fun x h=>by obtain⟨a,_,h⟩:=Yay.1 h;exact Yl.1 (R.one a) x h
def cells_inj:∀ {l r:List α},R.cells l=R.cells r→l=r
 |[],[],_=>rfl
 |[],e::r,h=>by have:=Ya1 List.length h;rw[len_cells,len_cells,Yv,Y5]at this;have:=R.pos;simp at *; omega
 |e::l,[],h=>by have:=Ya1 List.length h;rw[len_cells,len_cells,Yv,Y5]at this;have:=R.pos;simp at *; omega
 |e::l,e'::r,h=>by rw[cells_cons,cells_cons]at h;obtain⟨h1,h2⟩:=List.append_inj h (by rw[R.len,R.len]);rw[R.inj _ _ h1,cells_inj h2]
def lrel_cells {π:Nat→Nat}{N:Nat→Prop}(l:List α):LRel (Rn π N) (R.cells l) (R.cells l)↔True:=⟨fun _=>trivial,fun _=>zB (R.pure_cells l)⟩
def all_t {p:α→Bool}{l:List α}(h:∀i,i<l.length→p (R.nth l i)=true):l.all p=true:=by refine Yl.2 fun x hx=>?_;obtain⟨i,hi,rfl⟩:=YaB.1 hx;have:=h i hi;unfold nth at this;rwa [Ya,Yb hi]at this
def all_f {p:α→Bool}{l:List α}{i:Nat}(hi:i<l.length)(h:p (R.nth l i)=false):l.all p=false:=by
 cases e:l.all p with
 |false=>rfl
 |true=>rw[Yl.1 e _ (R.nth_mem hi)]at h;cases h
end Row
end Go.Ab

namespace Go.Ab
def gW(W:World):G:=⟨fun _=>none,fun c=>match W.heap[c]? with|some (.cells arr _ _)=>some arr|_=>none⟩
def gW_of {W:World}{c:Nat}{arr:Array Value}{t:TypeId}{fr:Nat×Nat}(h:W.heap[c]? =some (.cells arr t fr)):(gW W).phi c=some arr:=by simp only[gW,h]
def gW_frz {W:World}:∀c arr,(gW W).phi c=some arr→∃t fr,W.heap[c]? =some (.cells arr t fr):=by
 intro c arr e;simp only[gW]at e;split at e
 ·rename_i a t fr h;cases e;exact⟨t,fr,h⟩
 cases e
def zw6 {W:World}{a:Addr}{v:Value}(h:W.cell? a=some v):a.spot=none∧∃arr t fr,W.heap[a.block]? =some (.cells arr t fr)∧arr[a.off]? =some v:=by
 unfold World.cell? at h;split at h
 ·rename_i arr t fr hb;split at h
  ·cases h
  rename_i hs;refine⟨?_,arr,t,fr,hb,h⟩;cases e:a.spot with
  |none=>rfl
  |some x=>rw[e]at hs;simp at hs
 cases h
def strR:Row ZL where
 enc s:=[.str s]
 n:=1
 dflt:=[]
 len _:=rfl
 pos:=Zd
 pure a x h:=by simp only[Yy,YaM,YbZ]at h;subst h;exact .str _
 one _:=rfl
 inj a b h:=by simpa using h
def intR(k:IntKind):Row Int where
 enc s:=[.int k s]
 n:=1
 dflt:=0
 len _:=rfl
 pos:=Zd
 pure a x h:=by simp only[Yy,YaM,YbZ]at h;subst h;exact .int _ _
 one _:=rfl
 inj a b h:=by simpa using h
def boolR:Row Bool where
 enc s:=[.bool s]
 n:=1
 dflt:=false
 len _:=rfl
 pos:=Zd
 pure a x h:=by simp only[Yy,YaM,YbZ]at h;subst h;exact .bool _
 one _:=rfl
 inj a b h:=by simpa using h
def slR {α:Type}(R:Row α):Row (List α) where
 enc l:=[.fs (R.cells l) l.length]
 n:=1
 dflt:=[]
 len _:=rfl
 pos:=Zd
 pure a x h:=by simp only[Yy,YaM,YbZ]at h;subst h;exact .fs (R.pure_cells a)
 one _:=rfl
 inj a b h:=by simp only[Yt,V.fs.injEq,Yad]at h;exact R.cells_inj h.1
def zfv {α β:Type}(R:Row α)(S:Row β):Row (α×β) where
 enc p:=R.enc p.1++S.enc p.2
 n:=R.n+S.n
 dflt:=(R.dflt,S.dflt)
 len a:=by rw[Yg,R.len,S.len]
 pos:=by have:=R.pos;omega
 pure a x h:=(Yam.1 h).elim (R.pure _ x) (S.pure _ x)
 one a:=by rw[YbD,R.one,S.one];rfl
 inj a b h:=by obtain⟨h1,h2⟩:=List.append_inj h (by rw[R.len,R.len]);exact YaC (R.inj _ _ h1) (S.inj _ _ h2)
def CR(W:World)(l:ZA)(cs:List Value):Prop:=cs.length=l.length∧∀(k:Nat)(y:V),l[k]? =some y→∃v,cs[k]? =some v∧VRel (gW W) y v
def CR.one {W:World}{y:V}{v:Value}(h:VRel (gW W) y v):CR W [y] [v]:=⟨rfl,fun k x e=>by
 match k with
 |0=>cases e;exact⟨v,rfl,h⟩
 |k+1=>simp at e⟩
def Xu {W:World}{l r:ZA}{cs:List Value}{n m:Nat}(hl:l.length=n)(hr:r.length=m)(hc:cs.length=n+m)(h:CR W l ((cs.drop 0).take n))(k:CR W r ((cs.drop n).take m)):CR W (l++r) cs:=by
 refine⟨by rw[Yg];omega,fun i y e=>?_⟩;by_cases hi:i<l.length
 ·rw[YP hi]at e;obtain⟨v,h1,h2⟩:=h.2 i y e;rw[YW,Yba,Yi Zo]at h1;exact⟨v,h1,h2⟩
 rw[Yak Zo]at e;obtain⟨v,h1,h2⟩:=k.2 _ y e;have hlt:=(Ys.1 h1).1;rw[Y0]at hlt;rw[Yba,Yi Zo,Y8]at h1;rw[show n+(i-l.length)=i by omega]at h1;exact⟨v,h1,h2⟩
structure Dec(P:Program)(t:TypeId){α:Type}(R:Row α)(ok:α→Prop):Prop where
 n:P.cellsOf t=R.n
 dec:∀ {H:Type} {enc:TypeId×Value→H} {W:World} {base:Nat} {held:Bool} {fuel:Nat} {cs:List Value} {x:DataW H×List MemPlace},
  DataW.trod enc P W base (fun _=>true) held fuel t cs=some x→(∀n∈x.1.weights P t,n≤reachBytes)→∃a,ok a∧CR W (R.enc a) cs
variable {P:Program}
def Dec.str {t:TypeId}(ht:P.underlying t=some .string)(hc:P.cellsOf t=1):Dec P t strR (fun s=>s.length≤reachBytes):=⟨hc,fun h hw=>by obtain⟨s,e,ex,_⟩:=DataW.trod_string ht h;subst e;rw[ex]at hw;refine⟨s.data.toList,hw _ ?_,CR.one (.str rfl)⟩;simp[DataW.weights]⟩
def Dec.int {t:TypeId}{k:IntKind}(ht:P.underlying t=some (.int k))(hc:P.cellsOf t=1):Dec P t (intR k) (fun n=>(Lit.int k n).wf=true):=⟨hc,fun h _=>by obtain⟨n,e,ex,hw⟩:=DataW.trod_int ht h;subst e;exact⟨n,hw,CR.one (.int _ _)⟩⟩
def Dec.bool {t:TypeId}(ht:P.underlying t=some .bool)(hc:P.cellsOf t=1):Dec P t boolR (fun _=>True):=⟨hc,fun h _=>by obtain⟨n,e,ex⟩:=DataW.trod_bool ht h;subst e;exact⟨n,trivial,CR.one (.bool _)⟩⟩
def weightsAll_mem {H:Type}{e:TypeId}:∀ {l:List (DataW H)} {d:DataW H},d∈l→∀n∈d.weights P e,n∈DataW.weightsAll P e l
 |[],_,h,_,_=>by cases h
 |x::l,d,h,n,hn=>by
  rw[DataW.weightsAll];rcases Yy.1 h with rfl|h
  ·exact YC _ hn
  exact YJ _ (weightsAll_mem h n hn)
def Dec.slice {t e:TypeId}{α:Type}{R:Row α}{ok:α→Prop}(d:Dec P e R ok)(ht:P.underlying t=some (.slice e))(hc:P.cellsOf t=1)(hb:0<P.bytesOf e):Dec P t (slR R) (fun l=>l.length≤reachBytes∧∀a∈l,ok a):=⟨hc,fun {H enc W base held fuel cs x} h hw=>by
 rcases Go.Deep.open_slice ht h with⟨hv,hx⟩|⟨a,len,cap,m,k,D,Pl,hv,_,hl,_,hm,hx,hel⟩
 ·subst hv;exact⟨[],⟨Zs,fun a ha=>by cases ha⟩,CR.one (.fs0 fun _=>rfl)⟩
 subst hv;have hm':m=cap:=by rw[hm];rfl
 subst hm';clear hm;rw[hx]at hw;simp only[DataW.weights,ht]at hw;have hlen:len≤reachBytes:=by have:=hw ((((List.range len).map D).length+((List.range (m-len)).map fun j=>D (len+j)).length)*P.bytesOf e) (YK ..);simp only[Yan,List.length_range]at this;have h2:len*1≤(len+(m-len))*P.bytesOf e:=Ybd Zo hb;omega
 have hD:∀i,i<len→∀n∈(D i).weights P e,n≤reachBytes:=fun i hi n hn=>
  hw n (Yaa _ (YC _ (weightsAll_mem (YZ.2 ⟨i,YbF.2 hi,rfl⟩) n hn)))
 by_cases h0:len=0
 ·subst h0;exact⟨[],⟨Zs,fun a ha=>by cases ha⟩,CR.one (.fs0 fun h=>by cases h)⟩
 rw[d.n]at hel;have hell:∀i,i<len→∃(x:α)(cs':List Value),ok x∧W.cells? base (a.add (i*R.n)) R.n=some cs'∧CR W (R.enc x) cs':=fun i hi=>by obtain⟨cs',h1,h2⟩:=hel i Zo;obtain⟨x,h3,h4⟩:=d.dec h2 (hD i hi);exact⟨x,cs',h3,h1,h4⟩
 obtain⟨x0,cs0,_,hc0,hr0⟩:=hell 0 Zo;have hn0:=R.pos;have hc00:=(World.cells?_some hc0).2.2 0 hn0;have ha0:(a.add (0*R.n)).add 0=a:=by rw[Ybo];rfl
 rw[ha0]at hc00;have hsome:∃v,cs0[0]? =some v:=by have:=hr0.1;rw[R.len]at this;exact⟨cs0[0],Yb Zo⟩
 obtain⟨v0,hv0⟩:=hsome;rw[hv0]at hc00;obtain⟨hsp,arr,ty,fr,hb',_⟩:=zw6 hc00;obtain⟨b,off,sp⟩:=a;simp only at hsp hb';subst hsp;have hat:∀o i,((⟨b,o,none⟩:Addr).add i)=⟨b,o+i,none⟩:=fun o i=>by
  unfold Addr.add;split
  ·rename_i h;rw[h];rfl
  rfl
 have hget:∀i,i<len→∃x:α,ok x∧∀(j:Nat)(y:V),(R.enc x)[j]? =some y→∃v,arr[off+(i*R.n+j)]? =some v∧VRel (gW W) y v:=fun i hi=>by
  obtain⟨x,cs',h1,h2,h3⟩:=hell i hi;refine⟨x,h1,fun j y hy=>?_⟩;obtain⟨v,h4,h5⟩:=h3.2 j y hy;have hj:j<R.n:=by have:=(Ys.1 hy).1;rwa [R.len]at this
  have:=(World.cells?_some h2).2.2 j hj;rw[hat,hat]at this;unfold World.cell? at this;rw[hb']at this;refine⟨v,?_,h5⟩;rw[←YO];have h6:arr[off+i*R.n+j]? =cs'[j]? :=this;rw[h6,h4]
 let f:Nat→α:=fun i=>if h:i<len then Classical.choose (hget i h)else R.dflt
 have hf:∀i,i<len→ok (f i)∧∀(j:Nat)(y:V),(R.enc (f i))[j]? =some y→∃v,arr[off+(i*R.n+j)]? =some v∧VRel (gW W) y v:=fun i hi=>by have e:f i=Classical.choose (hget i hi):=dif_pos hi;rw[e];exact YaG (hget i hi)
 have hll:((List.range len).map f).length=len:=Zs;refine⟨(List.range len).map f,⟨by rw[hll];exact hlen,fun x hx=>?_⟩,CR.one ?_⟩
 ·obtain⟨i,hi,rfl⟩:=YZ.1 hx;exact(hf i (YbF.1 hi)).1
 rw[hll];refine Xk (gW_of hb') hl fun i x hx=>?_;have hi:i<len*R.n:=by have:=(Ys.1 hx).1;rwa [R.len_cells,hll]at this
 have hq:i/R.n<len:=(YaQ hn0).2 hi;have hr:=YaL i hn0;have he:i=i/R.n*R.n+i%R.n:=by have:=YbA i R.n;rw[Yac]at this;omega
 have hcell:(R.enc (f (i/R.n)))[i%R.n]? =some x:=by
  have h1:=R.at_ ((List.range len).map f) (i/R.n) (by rw[hll];exact hq);have h2:R.nth ((List.range len).map f) (i/R.n)=f (i/R.n):=by unfold Row.nth;rw[Ya,YT,List.getElem?_range hq];rfl
  rw[h2]at h1;have h3:((R.cells ((List.range len).map f)).drop (i/R.n*R.n))[i%R.n]? =some x:=by rw[Y8,←he];exact hx
  rwa [h1,YP (by rw[R.len];exact hr)]at h3
 obtain⟨v,h1,h2⟩:=(hf _ hq).2 _ x hcell;exact⟨v,by rw[←he]at h1;exact h1,h2⟩⟩
def weightsEach_cons {H:Type}(t:TypeId)(ts:List TypeId)(d:DataW H)(r:List (DataW H)):DataW.weightsEach P (t::ts) (d::r)=d.weights P t++DataW.weightsEach P ts r:=by rw[DataW.weightsEach]
def Dec.two {t:TypeId}{f0 f1:Field}{α β:Type}{R:Row α}{S:Row β}{ok:α→Prop}{ok':β→Prop}(ht:P.underlying t=some (.struct #[f0,f1]))(d0:Dec P f0.type R ok)(d1:Dec P f1.type S ok') (o0:f0.offset=0) (o1:f1.offset=R.n) (hc:P.cellsOf t=R.n+S.n):Dec P t (zfv R S) (fun a=>ok a.1∧ok' a.2):=⟨hc,fun {H enc W base held fuel cs x} h hw=>by obtain⟨y0,y1,m,hx,hl,h0,h1⟩:=Go.ChangeShapes.trod_struct2 ht h;rw[hx]at hw;simp only[DataW.weights,ht,Y7,Ycq,weightsEach_cons]at hw;obtain⟨a,k0,r0⟩:=d0.dec h0 fun n hn=>hw n (YC _ hn);obtain⟨b,k1,r1⟩:=d1.dec h1 fun n hn=>hw n (YJ _ (YC _ hn));rw[o0,d0.n]at r0;rw[o1,d1.n]at r1;exact⟨(a,b),⟨k0,k1⟩,Xu (R.len a) (S.len b) Zo r0 r1⟩⟩
def zcu {α:Type}(l:List α)(n m:Nat)(h:n≤m):(((l.drop 0).take m).drop 0).take n=(l.drop 0).take n:=by rw[YW,YW,Ybv,YaZ h]
def Dec.three {t:TypeId}{f0 f1 f2:Field}{α β γ:Type}{R:Row α}{S:Row β}{T:Row γ}{ok:α→Prop}{ok':β→Prop}{ok'':γ→Prop} (ht:P.underlying t=some (.struct #[f0,f1,f2])) (d0:Dec P f0.type R ok) (d1:Dec P f1.type S ok') (d2:Dec P f2.type T ok'') (o0:f0.offset=0) (o1:f1.offset=R.n) (o2:f2.offset=R.n+S.n) (hc:P.cellsOf t=R.n+S.n+T.n):Dec P t (zfv (zfv R S) T) (fun a=>(ok a.1.1∧ok' a.1.2)∧ok'' a.2):=⟨hc,fun {H enc W base held fuel cs x} h hw=>by
 obtain⟨y0,y1,y2,m,hx,hl,h0,h1,h2⟩:=Go.Deep.trod_struct3 ht h;rw[hx]at hw;simp only[DataW.weights,ht,Y7,Ycq,weightsEach_cons]at hw;obtain⟨a,k0,r0⟩:=d0.dec h0 fun n hn=>hw n (YC _ hn);obtain⟨b,k1,r1⟩:=d1.dec h1 fun n hn=>hw n (YJ _ (YC _ hn));obtain⟨c,k2,r2⟩:=d2.dec h2 fun n hn=>hw n (YJ _ (YJ _ (YC _ hn)));rw[o0,d0.n]at r0;rw[o1,d1.n]at r1;rw[o2,d2.n]at r2;refine⟨((a,b),c),⟨⟨k0,k1⟩,k2⟩,Xu (n:=R.n+S.n) (m:=T.n) (by show (R.enc a++S.enc b).length=_;rw[Yg,R.len,S.len]) (T.len c) Zo ?_ r2⟩;refine Xu (R.len a) (S.len b) (by rw[YW,Y0];omega) ?_ ?_
 ·rw[zcu _ _ _ Zo];exact r0
 rw[YW,Ycd,Ybu,Ybv,Nat.min_self];exact r1⟩
def Xy {t:TypeId}{f0 f1 f2 f3:Field}{α β γ δ:Type}{R:Row α}{S:Row β}{T:Row γ}{U:Row δ}{ok:α→Prop}{ok':β→Prop}{ok'':γ→Prop}{ok3:δ→Prop} (ht:P.underlying t=some (.struct #[f0,f1,f2,f3])) (d0:Dec P f0.type R ok) (d1:Dec P f1.type S ok') (d2:Dec P f2.type T ok'') (d3:Dec P f3.type U ok3) (o0:f0.offset=0) (o1:f1.offset=R.n) (o2:f2.offset=R.n+S.n) (o3:f3.offset=R.n+S.n+T.n) (hc:P.cellsOf t=R.n+S.n+T.n+U.n):Dec P t (zfv (zfv (zfv R S) T) U) (fun a=>((ok a.1.1.1∧ok' a.1.1.2)∧ok'' a.1.2)∧ok3 a.2):=⟨hc,fun {H enc W base held fuel cs x} h hw=>by
 obtain⟨y0,y1,y2,y3,m,hx,hl,h0,h1,h2,h3⟩:=Go.Joins.trod_struct4 ht h;rw[hx]at hw;simp only[DataW.weights,ht,Y7,Ycq,weightsEach_cons]at hw;obtain⟨a,k0,r0⟩:=d0.dec h0 fun n hn=>hw n (YC _ hn);obtain⟨b,k1,r1⟩:=d1.dec h1 fun n hn=>hw n (YJ _ (YC _ hn));obtain⟨c,k2,r2⟩:=d2.dec h2 fun n hn=>hw n (YJ _ (YJ _ (YC _ hn)));obtain⟨d,k3,r3⟩:=d3.dec h3 fun n hn=>hw n (YJ _ (YJ _ (YJ _ (YC _ hn))));rw[o0,d0.n]at r0;rw[o1,d1.n]at r1;rw[o2,d2.n]at r2;rw[o3,d3.n]at r3;refine⟨(((a,b),c),d),⟨⟨⟨k0,k1⟩,k2⟩,k3⟩,Xu (n:=R.n+S.n+T.n) (m:=U.n) (by show (R.enc a++S.enc b++T.enc c).length=_;rw[Yg,Yg,R.len,S.len,T.len]) (U.len d) Zo ?_ r3⟩;refine Xu (n:=R.n+S.n) (m:=T.n) (by show (R.enc a++S.enc b).length=_;rw[Yg,R.len,S.len]) (T.len c) (by rw[YW,Y0];omega) ?_ ?_
 ·rw[zcu _ _ _ Zo];refine Xu (R.len a) (S.len b) (by rw[YW,Y0];omega) ?_ ?_
  ·rw[zcu _ _ _ Zo];exact r0
  rw[YW,Ycd,Ybu,Ybv,Nat.min_self];exact r1
 rw[YW,Ycd,Ybu,Ybv,Nat.min_self];exact r2⟩
def Dec.cast {t:TypeId}{α β:Type}{R:Row α}{S:Row β}{ok:α→Prop}{ok':β→Prop}(d:Dec P t R ok)(f:α→β)(hn:R.n=S.n)(h:∀a,S.enc (f a)=R.enc a)(hok:∀a,ok a→ok' (f a)):Dec P t S ok':=
 ⟨d.n.trans hn,fun e hw=>by obtain⟨a,h1,h2⟩:=d.dec e hw;exact⟨f a,hok a h1,by rw[h];exact h2⟩⟩
def Dec.arg1 {t:TypeId}{α:Type}{R:Row α}{ok:α→Prop}(d:Dec P t R ok){H:Type}{enc:TypeId×Value→H}{W:World}{base:Nat}{held:Bool}{v:Value}{x:DataW H}{p:List MemPlace}(h:DataW.Trod enc P W base (fun _=>true) held t v x p) (hv:v.cells=#[v]) (hw:∀n∈x.weights P t,n≤reachBytes):∃a,ok a∧∀y,R.enc a=[y]→VRel (gW W) y v:=by obtain⟨fuel,h⟩:=h;obtain⟨a,h1,h2⟩:=d.dec h hw;refine⟨a,h1,fun y hy=>?_⟩;rw[hy,hv]at h2;obtain⟨v',e,r⟩:=h2.2 0 y rfl;cases e;exact r
def Dec.argS {t:TypeId}{α:Type}{R:Row α}{ok:α→Prop}(d:Dec P t R ok){H:Type}{enc:TypeId×Value→H}{W:World}{base:Nat}{held:Bool}{v:Value}{x:DataW H}{p:List MemPlace}(h:DataW.Trod enc P W base (fun _=>true) held t v x p) (hv:∃cs,v=.agg cs) (hw:∀n∈x.weights P t,n≤reachBytes):∃a,ok a∧VRel (gW W) (.agg (R.enc a)) v:=by obtain⟨fuel,h⟩:=h;obtain⟨a,h1,h2⟩:=d.dec h hw;obtain⟨cs,rfl⟩:=hv;exact⟨a,h1,Xj (by have:=h2.1;simp only[Value.cells,YX]at this;exact this) fun i x hx=>by obtain⟨v,e,r⟩:=h2.2 i x hx;exact⟨v,by simpa[Value.cells]using e,r⟩⟩
end Go.Ab

namespace Go.Proofs
open Go.Ab Go.Cnt
def zhT {P:Program}(t:TypeId)(a b c:V)(bs:ZH)(m:Nat):zS P t 3 [(0,a),(1,b),(2,c)] ⟨bs,m⟩=bsL (zcj P t) [a,b,c] ⟨bs,m⟩ (zcs P t 3 [(0,a),(1,b),(2,c)] ⟨bs,m⟩):=by
 unfold bsL;split
 ·rename_i s z hb;split
  ·rename_i hc;obtain⟨rfl,h1,h2,h3⟩:=hc;simp only[Ybg,Ycr,Yav,Yj]at h3;obtain⟨a1,a2⟩:=V.one_cells h3.1;obtain⟨b1,b2⟩:=V.one_cells h3.2.1;obtain⟨c1,c2⟩:=V.one_cells h3.2.2;unfold zcj at hb;split at hb
   ·rename_i e he;split at hb
    ·rename_i s' z' k1 k2;cases hb;match hz:(cv z).cellsV,h2 with
     |[y],_=>
      have zz:zbe P e 3=[y,y,y]:=by simp[zbe,k2,hz]
      simp[zS,he,k1,k2,zdd,a1,a2,b1,b2,c1,c2,zz,hz,h1,putCells,Hp.new]
    cases hb
   cases hb
  rfl
 rfl
attribute [go_sem] zhT
def rowR:Row (List Str) where
 enc s:=[.fs (strs s) s.length]
 n:=1
 dflt:=[]
 len _:=rfl
 pos:=Zd
 pure a x h:=by simp only[Yy,YaM,YbZ]at h;subst h;exact .fs (zaP a)
 one _:=rfl
 inj a b h:=by simp only[Yt,V.fs.injEq,Yad]at h;exact zbv h.1
def znm(m:List (List Str)):ZA:=rowR.cells m
def nthR(m:List (List Str))(i:Nat):List Str:=rowR.nth m i
def zrx(m:List (List Str)):∀x∈znm m,Pure x:=rowR.pure_cells m
def znv(m:List (List Str)):(∀x∈znm m,Pure x)↔True:=rowR.pure_cellsP m
def zrM {π:Nat→Nat}{N:Nat→Prop}(m:List (List Str)):LRel (Rn π N) (znm m) (znm m)↔True:=rowR.lrel_cells m
def zui {a b:List (List Str)}(h:znm a=znm b):a=b:=rowR.cells_inj h
def matR:Row (List (List Str)) where
 enc m:=[.fs (znm m) m.length]
 n:=1
 dflt:=[]
 len _:=rfl
 pos:=Zd
 pure a x h:=by simp only[Yy,YaM,YbZ]at h;subst h;exact .fs (zrx a)
 one _:=rfl
 inj a b h:=by simp only[Yt,V.fs.injEq,Yad]at h;exact zui h.1
def matsC(l:List (List (List Str))):ZA:=matR.cells l
def zvN(m:List (List (List Str))):(matsC m).length=m.length:=(matR.len_cells m).trans (Yas _)
attribute [go_sem] znv zrM zvN List.getElem?_cons_zero List.getElem?_cons_succ
structure Mdl where
 tags:List Str
 words:List Str
 next:List (List Str)
 emit:List (List Str)
end Go.Proofs

namespace Go.Ab
end Go.Ab

namespace Go.Ab
def AXa.fz3 {C:Cfg}{P:Program}{K:Out→St→Prop}{st:List Fr}{y:Code}{env env':Env}{bs:ZH}{n n':Nat}(fl:ZN)(bs':ZH)(hW:∀b∈C.Wm,b<C.nx∧(zG bs b).isSome=true)(hl:∀b∈fl,C.nx≤b∧(zG bs b).isSome=true) (he:fzE (· ∈fl) n' ⟨bs,n⟩ env env') (hh:∀b x',zG bs' b=some x'→b<n'∧¬b∈fl∧∃x,zG bs b=some x∧FzB ⟨bs,n⟩ (· ∈fl) n' x' x) (hel:∀b,b<C.nx→zG bs' b=zG bs b) (hn:C.nx≤n') (hx:AXa C P K st y env' ⟨bs',n'⟩):AXa C P K st y env ⟨bs,n⟩:=by
 refine AX.freeze3 (F:=(· ∈fl)) (fun b hb=>⟨(hW b hb).1,?_⟩) ⟨zwn he,fun b x' e=>?_,fun b hb=>⟨(hl b hb).1,?_⟩,fun b hb=>?_,hn⟩ hx
 ·have:=(hW b hb).2;rw[YaD]at this;rw[zbF];exact this
 ·obtain⟨h1,h2,x,h3,h4⟩:=hh b x' (by rw[←zbF];exact e);exact⟨h1,h2,x,by rw[zbF];exact h3,h4⟩
 ·have:=(hl b hb).2;rw[YaD]at this;rw[zbF];exact this
 show (⟨bs',n'⟩:Hp).get b=(⟨bs,n⟩:Hp).get b;rw[zbF,zbF];exact hel b hb
end Go.Ab

namespace Go.Ab
variable {P:Program}
structure Meth(α σ:Type) where
 pat:α→ZA
 cel:σ→ZA
 cond:α→σ→Prop
 val:α→σ→V
 upd:α→σ→σ
 patI:∀x y,pat x=pat y→x=y
 celI:∀x y,cel x=cel y→x=y
 patP:∀x,∀v∈pat x,Pure v
 celP:∀s,∀v∈cel s,Pure v
 valP:∀x s,Pure (val x s)
variable {α σ:Type}(M:Meth α σ)
def HCall.plain {f:FuncId}{args:ZA}{v:V}(hN:NCall P f args [] [] v ⟨[],0⟩)(hv:Pure v)(ha:∀x∈args,Pure x)(H:Hp)(hk:∀b x,H.get b=some x→b<H.next):HCall P f args H ⟨True,v,H,[],[]⟩:=
 HCall.none hN hv [] args H rfl .nil (zB ha) (fun i x hx=>by simp at hx) (fun i x hx=>by simp at hx) hk
end Go.Ab

namespace Go.Proofs
open Go.Ab Go.Cnt
section
variable {C:Cfg}{P:Program}{K:Out→St→Prop}{st:List Fr}{ops:Array Oper}{os:List Oper}{env:Env}{h:Hp}
end
end Go.Proofs

namespace Go.Proofs
open Go.Ab Go.Pl
def resP:V→ZL×Int
 | .tup [.str s,.int .i64 e]=>(s,e)
 |_=>([],0)
theorem resP_tup(s:ZL)(e:Int):resP (.tup [.str s,.int .i64 e])=(s,e):=rfl
theorem resP_err(e:Int):resP (errV e)=([],e):=rfl
end Go.Proofs

namespace Go.Ab
end Go.Ab
