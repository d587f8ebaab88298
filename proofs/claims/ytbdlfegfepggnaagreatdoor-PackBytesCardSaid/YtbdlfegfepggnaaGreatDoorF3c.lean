/- The reference's rational numbers: products and sums of integers. -/
import Derived.Test.YtbdlfegfepggnaaGreatDoorF3a
import Derived.ProofKit
import Derived.Lib.SmallJoins
import Derived.Deep.Slices
import Derived.Deep.Strs
import Derived.Handed
set_option linter.all false
set_option maxHeartbeats 16000000
set_option maxRecDepth 100000
noncomputable section
namespace Go.Proofs
open Tryz Go.Ab Go.Pl
def cR2Mul:ZV:=zC (fun p:Nat×Nat=>[.str (dec p.1),.str (dec p.2)]) (fun p=>(dec p.1).length≤1000∧(dec p.2).length≤1000∧(dec (p.1*p.2)).length≤1000) (fun p=>.ret (.tup [.str (dec (p.1*p.2)),.int .i64 0]))
def zz1:ZC cR2Mul 147:=zn fun p h=>by have:=rMul_ok (dec p.1) (dec p.2);rwa [zrm h.1 h.2.1 h.2.2]at this
@[go_sem]def cR2Mul_eq(m n:Nat)(hm:(dec m).length≤1000)(hn:(dec n).length≤1000)(h:(dec (m*n)).length≤1000):cR2Mul [.str (dec m),.str (dec n)]=some (.ret (.tup [.str (dec (m*n)),.int .i64 0])):=
 zo (pat:=fun p:Nat×Nat=>[V.str (dec p.1),.str (dec p.2)]) (fun x y h=>by simp at h;exact Yai (zav h.1) (zav h.2)) (m,n) ⟨hm,hn,h⟩
def cR2Add:ZV:=zC (fun p:Nat×Nat=>[.str (dec p.1),.str (dec p.2)]) (fun p=>(dec p.1).length≤1000∧(dec p.2).length≤1000∧(dec (p.1+p.2)).length≤1000) (fun p=>.ret (.tup [.str (dec (p.1+p.2)),.int .i64 0]))
def zz3:ZC cR2Add 144:=zn fun p h=>by have:=rAdd_ok (dec p.1) (dec p.2);rwa [zsB h.1 h.2.1 h.2.2]at this
@[go_sem]def cR2Add_eq(m n:Nat)(hm:(dec m).length≤1000)(hn:(dec n).length≤1000)(h:(dec (m+n)).length≤1000):cR2Add [.str (dec m),.str (dec n)]=some (.ret (.tup [.str (dec (m+n)),.int .i64 0])):=
 zo (pat:=fun p:Nat×Nat=>[V.str (dec p.1),.str (dec p.2)]) (fun x y h=>by simp at h;exact Yai (zav h.1) (zav h.2)) (m,n) ⟨hm,hn,h⟩
def cR2Sub:ZV:=zC (fun p:Nat×Nat=>[.str (dec p.1),.str (dec p.2)]) (fun p=>(dec p.1).length≤1000∧(dec p.2).length≤1000∧p.2≤p.1) (fun p=>.ret (.tup [.str (dec (p.1-p.2)),.int .i64 0]))
def zz0:ZC cR2Sub 146:=zn fun p h=>by have:=rSub_ok (dec p.1) (dec p.2);rwa [zq5 h.1 h.2.1 h.2.2]at this
@[go_sem]def cR2Sub_eq(m n:Nat)(hm:(dec m).length≤1000)(hn:(dec n).length≤1000)(h:n≤m):cR2Sub [.str (dec m),.str (dec n)]=some (.ret (.tup [.str (dec (m-n)),.int .i64 0])):=
 zo (pat:=fun p:Nat×Nat=>[V.str (dec p.1),.str (dec p.2)]) (fun x y h=>by simp at h;exact Yai (zav h.1) (zav h.2)) (m,n) ⟨hm,hn,h⟩
def cR2Cmp:ZV:=zC (fun p:Nat×Nat=>[.str (dec p.1),.str (dec p.2)]) (fun p=>(dec p.1).length≤1000∧(dec p.2).length≤1000) (fun p=>.ret (.int .i64 (cmpI p.1 p.2)))
def zz2:ZC cR2Cmp 145:=zn fun p h=>by have:=rCmp_ok (dec p.1) (dec p.2);rwa [zr1 h.1 h.2]at this
@[go_sem]def cR2Cmp_eq(m n:Nat)(hm:(dec m).length≤1000)(hn:(dec n).length≤1000):cR2Cmp [.str (dec m),.str (dec n)]=some (.ret (.int .i64 (cmpI m n))):=
 zo (pat:=fun p:Nat×Nat=>[V.str (dec p.1),.str (dec p.2)]) (fun x y h=>by simp at h;exact Yai (zav h.1) (zav h.2)) (m,n) ⟨hm,hn⟩
def zw7(m n:Nat)(hm:(dec m).length≤400)(hn:(dec n).length≤400):PCall prog 124 [.str (dec m),.str (dec n)] (.ret (.str (dec (m*n)))):=by refine Xc (rs:=[.tmp 4]) [0,1,4,5] [] mixed (zg zz1 zh) (zf) call124 func124 rfl ntmps124 rfl ?_;have:=zcN hm hn;simp(disch:=try exact Zq)only[go_sem]
def zzT:ZV:=zC (fun p:Nat×Nat=>[.str (dec p.1),.str (dec p.2)]) (fun p=>(dec p.1).length≤400∧(dec p.2).length≤400) (fun p=>.ret (.str (dec (p.1*p.2))))
def zvh:ZC zzT 124:=zn fun p h=>zw7 p.1 p.2 h.1 h.2
@[go_sem]def cRTimes_eq(m n:Nat)(hm:(dec m).length≤400)(hn:(dec n).length≤400):zzT [.str (dec m),.str (dec n)]=some (.ret (.str (dec (m*n)))):=
 zo (pat:=fun p:Nat×Nat=>[V.str (dec p.1),.str (dec p.2)]) (fun x y h=>by simp at h;exact Yai (zav h.1) (zav h.2)) (m,n) ⟨hm,hn⟩
def rSum_ok(p:Bool)(m:Nat)(q:Bool)(n:Nat)(hm:(dec m).length≤800)(hn:(dec n).length≤800):PCall prog 123 [.bool p,.str (dec m),.bool q,.str (dec n)] (.ret (.tup [.bool (sumS p m q n).1,.str (dec (sumS p m q n).2)])):=by
 have hΓ:=zg zz3 (zg zz2 (zg zz0 zh));refine Xc (rs:=[.tmp 8,.tmp 9]) [0,1,2,3,8,9,10,12,14,18,30] [] mixed (hΓ) (zf) call123 func123 rfl ntmps123 rfl ?_;have ha:=zio hm hn;by_cases hpq:p=q
 ·subst hpq;simp(disch:=try exact Zq)only[go_sem,sumS,YbD,Yba]
 have hpq':(p==q)=false:=by simpa using hpq
 simp(disch:=try exact Zq)only[go_sem,hpq'];refine Xb (fun h1=>?_) (fun h1=>?_)
 ·have h2:n≤m:=by
   rw[zbH]at h1;split at h1
   ·omega
   omega
  simp(disch:=try exact Zq)only[go_sem,sumS,hpq,h2]
 have h2:¬n≤m:=by
  rw[zbH]at h1;split at h1
  ·omega
  split at h1<;>omega
 simp(disch:=try exact Zq)only[go_sem,sumS,hpq,h2]
def cRSum:ZV:=zC (fun p:Bool×Nat×Bool×Nat=>[.bool p.1,.str (dec p.2.1),.bool p.2.2.1,.str (dec p.2.2.2)]) (fun p=>(dec p.2.1).length≤800∧(dec p.2.2.2).length≤800) (fun p=>.ret (.tup [.bool (sumS p.1 p.2.1 p.2.2.1 p.2.2.2).1,.str (dec (sumS p.1 p.2.1 p.2.2.1 p.2.2.2).2)]))
def cRSum_ok:ZC cRSum 123:=zn fun p h=>rSum_ok p.1 p.2.1 p.2.2.1 p.2.2.2 h.1 h.2
@[go_sem]def cRSum_eq(p:Bool)(m:Nat)(q:Bool)(n:Nat)(hm:(dec m).length≤800)(hn:(dec n).length≤800):cRSum [.bool p,.str (dec m),.bool q,.str (dec n)]=some (.ret (.tup [.bool (sumS p m q n).1,.str (dec (sumS p m q n).2)])):=
 zo (pat:=fun p:Bool×Nat×Bool×Nat=>[V.bool p.1,.str (dec p.2.1),.bool p.2.2.1,.str (dec p.2.2.2)]) (fun x y h=>by obtain⟨x1,x2,x3,x4⟩:=x;obtain⟨y1,y2,y3,y4⟩:=y;simp at h;obtain⟨h1,h2,h3,h4⟩:=h;rw[h1,zav h2,h3,zav h4]) (p,m,q,n) ⟨hm,hn⟩
def zgU {a:ZL}{s:Bool}{n d:Nat}(h:ratP a=some (s,n,d)):(dec n).length≤400∧(dec d).length≤400∧0<d:=by obtain⟨h0,_,h1,h2⟩:=zbm h;exact⟨h1,h2,h0⟩
def r3Cmp_ok(a b:ZL)(la:a.length≤1000000000)(lb:b.length≤1000000000):PCall prog 103 [.str a,.str b] (.ret (.int .i64 (zbe a b))):=by
 have hΓ:=zg zjT (zg zvh (zg cRSum_ok zh));refine Xc (rs:=[.tmp 4]) [0,1,4,5,6,7,8,9,10,11,12,13,14,34,48,51] [] mixed (hΓ) (zf) call103 func103 rfl ntmps103 rfl ?_;cases ha:ratP a with
 |none=>
  rw[zmK b ha];cases hb:ratP b with
  |none=>simp(disch:=try exact Zq)only[go_sem,ha,hb]
  |some y=>obtain⟨q,n,f⟩:=y;simp(disch:=try exact Zq)only[go_sem,ha,hb]
 |some x=>
  obtain⟨p,m,d⟩:=x;cases hb:ratP b with
  |none=>rw[zmJ a hb];simp(disch:=try exact Zq)only[go_sem,ha,hb]
  |some y=>
   obtain⟨q,n,f⟩:=y;rw[zfu ha hb];obtain⟨lm,ld,_⟩:=zgU ha;obtain⟨ln,lf,_⟩:=zgU hb;have l1:=zcN lm lf;have l2:=zcN ln ld;simp(disch:=try exact Zq)only[go_sem,ha,hb];have hz:decide (dec (sumS p (m*f) (!q) (n*d)).2=[48])=decide ((sumS p (m*f) (!q) (n*d)).2=0):=by simp only[dec_is_zero]
   rw[hz];refine Xb (fun h1=>?_) (fun h1=>?_)
   ·simp(disch:=try exact Zq)only[go_sem,h1]
   cases h2:(sumS p (m*f) (!q) (n*d)).1
   ·simp(disch:=try exact Zq)only[go_sem,h1,h2,YS]
   simp(disch:=try exact Zq)only[go_sem,h1,h2]
def parseV_s {a:ZL}{s:Bool}{n d:Nat}(hr:ratP a=some (s,n,d)):zee a=.tup [.agg [.bool s,.str (dec n),.str (dec d)],.bool true]:=by unfold zee;generalize ratP a=q at hr;subst hr;rfl
def parseV_n {a:ZL}(hr:ratP a=none):zee a=.tup [.agg [.bool false,.str [],.str []],.bool false]:=by unfold zee;generalize ratP a=q at hr;subst hr;rfl
def zsg:ZV:=zC (fun a:ZL=>[.str a]) (fun a=>a.length≤1000000000) fun a=>.ret (zee a)
def znV(a:ZL)(h:a.length≤1000000000):zsg [.str a]=some (.ret (zee a)):=zo (pat:=fun a:ZL=>[V.str a]) (fun x y h=>by simpa using h) a h
def znU:ZC zsg 132:=zn fun a h=>parse_ok a h
@[go_sem]def cParse_s {a:ZL}{s:Bool}{n d:Nat}(hr:ratP a=some (s,n,d))(h:a.length≤1000000000):zsg [.str a]=some (.ret (.tup [.agg [.bool s,.str (dec n),.str (dec d)],.bool true])):=
 (znV a h).trans (YaZ (fun v=>some (PR.ret v)) (parseV_s hr))
@[go_sem]def cParse_n {a:ZL}(hr:ratP a=none)(h:a.length≤1000000000):zsg [.str a]=some (.ret (.tup [.agg [.bool false,.str [],.str []],.bool false])):=
 (znV a h).trans (YaZ (fun v=>some (PR.ret v)) (parseV_n hr))
def zo3(a:ZL)(h:a.length≤1000000000):PCall prog 107 [.str a] (.ret (.bool (ratP a).isSome)):=by
 refine Xc (rs:=[.tmp 2]) [0,2] [] mixed (zg znU zh) (zf) call107 func107 rfl ntmps107 rfl ?_;cases hr:ratP a with
 |none=>simp(disch:=try exact Zq)only[go_sem,hr,Ycx]
 |some q=>obtain⟨s,n,d⟩:=q;simp(disch:=try exact Zq)only[go_sem,hr,Option.isSome_some]
def znL:ZV:=zC (fun a:ZL=>[.str a]) (fun a=>a.length≤1000000000) fun a=>.ret (.bool (ratP a).isSome)
@[go_sem]def zcZ(a:ZL)(h:a.length≤1000000000):znL [.str a]=some (.ret (.bool (ratP a).isSome)):=zo (pat:=fun a:ZL=>[V.str a]) (fun x y h=>by simpa using h) a h
theorem zgD:ZC znL 107:=zn fun a h=>zo3 a h
def zw4(a b:ZL)(la:a.length≤1000000000)(lb:b.length≤1000000000):PCall prog 136 [.str a,.str b] (.ret (.int .i64 (zbe a b))):=by
 have hΓ:=zg znU (zg cNMul_ok (zg zsi (zg zAa zh)));refine Xc (rs:=[.tmp 4]) [0,1,4,5,6,7,8,9,10,26,52,55] [] mixed (hΓ) (zf) call136 func136 rfl ntmps136 rfl ?_;cases ha:ratP a with
 |none=>
  rw[zmK b ha];cases hb:ratP b with
  |none=>simp(disch:=try exact Zq)only[go_sem,ha,hb]
  |some y=>obtain⟨q,n,f⟩:=y;simp(disch:=try exact Zq)only[go_sem,ha,hb]
 |some x=>
  obtain⟨p,m,d⟩:=x;cases hb:ratP b with
  |none=>rw[zmJ a hb];simp(disch:=try exact Zq)only[go_sem,ha,hb]
  |some y=>
   obtain⟨q,n,f⟩:=y;rw[zfu ha hb];obtain⟨lm,ld,_⟩:=zgU ha;obtain⟨ln,lf,_⟩:=zgU hb;have l1:=zcN lm lf;have l2:=zcN ln ld;simp(disch:=try exact Zq)only[go_sem,ha,hb];refine AXk.intro Zk ?_;have hz:decide (dec (sumS p (m*f) (!q) (n*d)).2=[48])=decide ((sumS p (m*f) (!q) (n*d)).2=0):=by simp only[dec_is_zero]
   simp(disch:=try exact Zq)only[go_sem];rw[hz];refine Xb (fun h1=>?_) (fun h1=>?_)
   ·simp(disch:=try exact Zq)only[go_sem,h1]
   cases h2:(sumS p (m*f) (!q) (n*d)).1
   ·simp(disch:=try exact Zq)only[go_sem,h1,h2,YS]
   simp(disch:=try exact Zq)only[go_sem,h1,h2]
def zzS:ZV:=zC (fun p:ZL×ZL=>[.str p.1,.str p.2]) (fun p=>p.1.length≤1000000000∧p.2.length≤1000000000) (fun p=>.ret (.int .i64 (zbe p.1 p.2)))
def zvg:ZC zzS 136:=zn fun p h=>zw4 p.1 p.2 h.1 h.2
@[go_sem]def cRatCmp_eq(a b:ZL)(la:a.length≤1000000000)(lb:b.length≤1000000000):zzS [.str a,.str b]=some (.ret (.int .i64 (zbe a b))):=zo (fun p q h=>by simp at h;exact Yai h.1 h.2) (a,b) ⟨la,lb⟩
end Go.Proofs

namespace Go.Ab
structure Row(α:Type) where
 enc:α→ZA
 n:Nat
 dflt:α
 len:∀a,(enc a).length=n
 pos:0<n
 pure:∀a,∀x∈enc a,Pure x
 one:∀a,(enc a).all V.one=true
 inj:∀a b,enc a=enc b→a=b
namespace Row
variable {α:Type}(R:Row α)
def cells(l:List α):ZA:=l.flatMap R.enc
def nth(l:List α)(i:Nat):α:=l.getD i R.dflt
theorem zzv:R.cells []=[]:=rfl
theorem cells_cons(e:α)(l:List α):R.cells (e::l)=R.enc e++R.cells l:=rfl
def cells_append(l r:List α):R.cells (l++r)=R.cells l++R.cells r:=by simp[cells]
def len_cells:∀l:List α,(R.cells l).length=l.length*R.n
 |[]=>by simp[cells]
 |e::l=>by rw[cells_cons,Yd,R.len,len_cells l,Yn,Yal,YbS,Nat.add_comm]
def zjS:∀(l:List α)(i:Nat),(R.cells l).drop (i*R.n)=R.cells (l.drop i)
 |l,0=>Zs
 |[],i+1=>by simp[zzv]
 |e::l,i+1=>by rw[cells_cons,Yal,YbS,Nat.add_comm,←Ya8,show R.n=(R.enc e).length by rw[R.len],List.drop_left,R.len];exact zjS l i
def drop_nth:∀(l:List α)(i:Nat),i<l.length→l.drop i=R.nth l i::l.drop (i+1)
 |[],_,h=>by simp at h
 |e::l,0,_=>rfl
 |e::l,i+1,h=>by have:=drop_nth l i (by simpa using h);simpa[nth]using this
def take_nth(l:List α)(i:Nat)(h:i<l.length):l.take (i+1)=l.take i++[R.nth l i]:=by rw[YaG,nth,Ya,Yb h];rfl
def nth_mem {l:List α}{i:Nat}(h:i<l.length):R.nth l i∈l:=by unfold nth;rw[Ya,Yb h];exact Y6 h
def at_(l:List α)(i:Nat)(h:i<l.length):(R.cells l).drop (i*R.n)=R.enc (R.nth l i)++R.cells (l.drop (i+1)):=by rw[zjS,R.drop_nth l i h,cells_cons]
def pure_cells(l:List α):∀x∈R.cells l,Pure x:=fun x h=>by obtain⟨a,_,h⟩:=Ya5.1 h;exact R.pure a x h
def pure_cellsP(l:List α):(∀x∈R.cells l,Pure x)↔True:=⟨fun _=>trivial,fun _=>R.pure_cells l⟩
def one_cells(l:List α):(R.cells l).all V.one=true:=Yo.2 fun x h=>by obtain⟨a,_,h⟩:=Ya5.1 h;exact Yo.1 (R.one a) x h
def cells_inj:∀ {l r:List α},R.cells l=R.cells r→l=r
 |[],[],_=>rfl
 |[],e::r,h=>by have:=YaZ List.length h;rw[len_cells,len_cells,Yn,Yal]at this;have:=R.pos;simp at *; omega
 |e::l,[],h=>by have:=YaZ List.length h;rw[len_cells,len_cells,Yn,Yal]at this;have:=R.pos;simp at *; omega
 |e::l,e'::r,h=>by rw[cells_cons,cells_cons]at h;obtain⟨h1,h2⟩:=List.append_inj h (by rw[R.len,R.len]);rw[R.inj _ _ h1,cells_inj h2]
def lrel_cells {π:Nat→Nat}{N:Nat→Prop}(l:List α):LRel (Rn π N) (R.cells l) (R.cells l)↔True:=⟨fun _=>trivial,fun _=>zA (R.pure_cells l)⟩
def all_t {p:α→Bool}{l:List α}(h:∀i,i<l.length→p (R.nth l i)=true):l.all p=true:=by refine Yo.2 fun x hx=>?_;obtain⟨i,hi,rfl⟩:=Yaw.1 hx;have:=h i hi;unfold nth at this;rwa [Ya,Yb hi]at this
def all_f {p:α→Bool}{l:List α}{i:Nat}(hi:i<l.length)(h:p (R.nth l i)=false):l.all p=false:=by
 cases e:l.all p with
 |false=>rfl
 |true=>rw[Yo.1 e _ (R.nth_mem hi)]at h;cases h
end Row
end Go.Ab

namespace Go.Ab
def gW(W:World):G:=⟨fun _=>none,fun c=>match W.heap[c]? with|some (.cells arr _ _)=>some arr|_=>none⟩
def gW_of {W:World}{c:Nat}{arr:Array Value}{t:TypeId}{fr:Nat×Nat}(h:W.heap[c]? =some (.cells arr t fr)):(gW W).phi c=some arr:=by simp only[gW,h]
def gW_frz {W:World}:∀c arr,(gW W).phi c=some arr→∃t fr,W.heap[c]? =some (.cells arr t fr):=by
 intro c arr e;simp only[gW]at e;split at e
 ·rename_i a t fr h;cases e;exact⟨t,fr,h⟩
 cases e
def zzA {W:World}{a:Addr}{v:Value}(h:W.cell? a=some v):a.spot=none∧∃arr t fr,W.heap[a.block]? =some (.cells arr t fr)∧arr[a.off]? =some v:=by
 unfold World.cell? at h;split at h
 ·rename_i arr t fr hb;split at h
  ·cases h
  rename_i hs;refine⟨?_,arr,t,fr,hb,h⟩;cases e:a.spot with
  |none=>rfl
  |some x=>rw[e]at hs;simp at hs
 cases h
def strR:Row ZL where
 enc s:=[.str s]
 n:=1
 dflt:=[]
 len _:=rfl
 pos:=Zd
 pure a x h:=by simp only[Yy,YaE,Yce]at h;subst h;exact .str _
 one _:=rfl
 inj a b h:=by simpa using h
def intR(k:IntKind):Row Int where
 enc s:=[.int k s]
 n:=1
 dflt:=0
 len _:=rfl
 pos:=Zd
 pure a x h:=by simp only[Yy,YaE,Yce]at h;subst h;exact .int _ _
 one _:=rfl
 inj a b h:=by simpa using h
def boolR:Row Bool where
 enc s:=[.bool s]
 n:=1
 dflt:=false
 len _:=rfl
 pos:=Zd
 pure a x h:=by simp only[Yy,YaE,Yce]at h;subst h;exact .bool _
 one _:=rfl
 inj a b h:=by simpa using h
def slR {α:Type}(R:Row α):Row (List α) where
 enc l:=[.fs (R.cells l) l.length]
 n:=1
 dflt:=[]
 len _:=rfl
 pos:=Zd
 pure a x h:=by simp only[Yy,YaE,Yce]at h;subst h;exact .fs (R.pure_cells a)
 one _:=rfl
 inj a b h:=by simp only[Yw,V.fs.injEq,Yap]at h;exact R.cells_inj h.1
def zf8 {α β:Type}(R:Row α)(S:Row β):Row (α×β) where
 enc p:=R.enc p.1++S.enc p.2
 n:=R.n+S.n
 dflt:=(R.dflt,S.dflt)
 len a:=by rw[Yd,R.len,S.len]
 pos:=by have:=R.pos;omega
 pure a x h:=(Yar.1 h).elim (R.pure _ x) (S.pure _ x)
 one a:=by rw[YbY,R.one,S.one];rfl
 inj a b h:=by obtain⟨h1,h2⟩:=List.append_inj h (by rw[R.len,R.len]);exact Yai (R.inj _ _ h1) (S.inj _ _ h2)
def CR(W:World)(l:ZA)(cs:List Value):Prop:=cs.length=l.length∧∀(k:Nat)(y:V),l[k]? =some y→∃v,cs[k]? =some v∧VRel (gW W) y v
def CR.one {W:World}{y:V}{v:Value}(h:VRel (gW W) y v):CR W [y] [v]:=⟨rfl,fun k x e=>by
 match k with
 |0=>cases e;exact⟨v,rfl,h⟩
 |k+1=>simp at e⟩
def Xw {W:World}{l r:ZA}{cs:List Value}{n m:Nat}(hl:l.length=n)(hr:r.length=m)(hc:cs.length=n+m)(h:CR W l ((cs.drop 0).take n))(k:CR W r ((cs.drop n).take m)):CR W (l++r) cs:=by
 refine⟨by rw[Yd];omega,fun i y e=>?_⟩;by_cases hi:i<l.length
 ·rw[YQ hi]at e;obtain⟨v,h1,h2⟩:=h.2 i y e;rw[Y1,Ybh,Yi Zo]at h1;exact⟨v,h1,h2⟩
 rw[Yax Zo]at e;obtain⟨v,h1,h2⟩:=k.2 _ y e;have hlt:=(Yt.1 h1).1;rw[Yx]at hlt;rw[Ybh,Yi Zo,Yak]at h1;rw[show n+(i-l.length)=i by omega]at h1;exact⟨v,h1,h2⟩
structure Dec(P:Program)(t:TypeId){α:Type}(R:Row α)(ok:α→Prop):Prop where
 n:P.cellsOf t=R.n
 dec:∀ {H:Type} {enc:TypeId×Value→H} {W:World} {base:Nat} {held:Bool} {fuel:Nat} {cs:List Value} {x:DataW H×List MemPlace},
  DataW.trod enc P W base (fun _=>true) held fuel t cs=some x→(∀n∈x.1.weights P t,n≤reachBytes)→∃a,ok a∧CR W (R.enc a) cs
variable {P:Program}
def Dec.str {t:TypeId}(ht:P.underlying t=some .string)(hc:P.cellsOf t=1):Dec P t strR (fun s=>s.length≤reachBytes):=⟨hc,fun h hw=>by obtain⟨s,e,ex,_⟩:=DataW.trod_string ht h;subst e;rw[ex]at hw;refine⟨s.data.toList,hw _ ?_,CR.one (.str rfl)⟩;simp[DataW.weights]⟩
def Dec.int {t:TypeId}{k:IntKind}(ht:P.underlying t=some (.int k))(hc:P.cellsOf t=1):Dec P t (intR k) (fun n=>(Lit.int k n).wf=true):=⟨hc,fun h _=>by obtain⟨n,e,ex,hw⟩:=DataW.trod_int ht h;subst e;exact⟨n,hw,CR.one (.int _ _)⟩⟩
def Dec.bool {t:TypeId}(ht:P.underlying t=some .bool)(hc:P.cellsOf t=1):Dec P t boolR (fun _=>True):=⟨hc,fun h _=>by obtain⟨n,e,ex⟩:=DataW.trod_bool ht h;subst e;exact⟨n,trivial,CR.one (.bool _)⟩⟩
def weightsAll_mem {H:Type}{e:TypeId}:∀ {l:List (DataW H)} {d:DataW H},d∈l→∀n∈d.weights P e,n∈DataW.weightsAll P e l
 |[],_,h,_,_=>by cases h
 |x::l,d,h,n,hn=>by
  rw[DataW.weightsAll];rcases Yy.1 h with rfl|h
  ·exact YG _ hn
  exact YH _ (weightsAll_mem h n hn)
def Dec.slice {t e:TypeId}{α:Type}{R:Row α}{ok:α→Prop}(d:Dec P e R ok)(ht:P.underlying t=some (.slice e))(hc:P.cellsOf t=1)(hb:0<P.bytesOf e):Dec P t (slR R) (fun l=>l.length≤reachBytes∧∀a∈l,ok a):=⟨hc,fun {H enc W base held fuel cs x} h hw=>by
 rcases Go.Deep.open_slice ht h with⟨hv,hx⟩|⟨a,len,cap,m,k,D,Pl,hv,_,hl,_,hm,hx,hel⟩
 ·subst hv;exact⟨[],⟨Zs,fun a ha=>by cases ha⟩,CR.one (.fs0 fun _=>rfl)⟩
 subst hv;have hm':m=cap:=by rw[hm];rfl
 subst hm';clear hm;rw[hx]at hw;simp only[DataW.weights,ht]at hw;have hlen:len≤reachBytes:=by have:=hw ((((List.range len).map D).length+((List.range (m-len)).map fun j=>D (len+j)).length)*P.bytesOf e) (YA ..);simp only[Y5,List.length_range]at this;have h2:len*1≤(len+(m-len))*P.bytesOf e:=Ybk Zo hb;omega
 have hD:∀i,i<len→∀n∈(D i).weights P e,n≤reachBytes:=fun i hi n hn=>
  hw n (YD _ (YG _ (weightsAll_mem (Yab.2 ⟨i,Yb3.2 hi,rfl⟩) n hn)))
 by_cases h0:len=0
 ·subst h0;exact⟨[],⟨Zs,fun a ha=>by cases ha⟩,CR.one (.fs0 fun h=>by cases h)⟩
 rw[d.n]at hel;have hell:∀i,i<len→∃(x:α)(cs':List Value),ok x∧W.cells? base (a.add (i*R.n)) R.n=some cs'∧CR W (R.enc x) cs':=fun i hi=>by obtain⟨cs',h1,h2⟩:=hel i Zo;obtain⟨x,h3,h4⟩:=d.dec h2 (hD i hi);exact⟨x,cs',h3,h1,h4⟩
 obtain⟨x0,cs0,_,hc0,hr0⟩:=hell 0 Zo;have hn0:=R.pos;have hc00:=(World.cells?_some hc0).2.2 0 hn0;have ha0:(a.add (0*R.n)).add 0=a:=by rw[Ybe];rfl
 rw[ha0]at hc00;have hsome:∃v,cs0[0]? =some v:=by have:=hr0.1;rw[R.len]at this;exact⟨cs0[0],Yb Zo⟩
 obtain⟨v0,hv0⟩:=hsome;rw[hv0]at hc00;obtain⟨hsp,arr,ty,fr,hb',_⟩:=zzA hc00;obtain⟨b,off,sp⟩:=a;simp only at hsp hb';subst hsp;have hat:∀o i,((⟨b,o,none⟩:Addr).add i)=⟨b,o+i,none⟩:=fun o i=>by
  unfold Addr.add;split
  ·rename_i h;rw[h];rfl
  rfl
 have hget:∀i,i<len→∃x:α,ok x∧∀(j:Nat)(y:V),(R.enc x)[j]? =some y→∃v,arr[off+(i*R.n+j)]? =some v∧VRel (gW W) y v:=fun i hi=>by
  obtain⟨x,cs',h1,h2,h3⟩:=hell i hi;refine⟨x,h1,fun j y hy=>?_⟩;obtain⟨v,h4,h5⟩:=h3.2 j y hy;have hj:j<R.n:=by have:=(Yt.1 hy).1;rwa [R.len]at this
  have:=(World.cells?_some h2).2.2 j hj;rw[hat,hat]at this;unfold World.cell? at this;rw[hb']at this;refine⟨v,?_,h5⟩;rw[←YU];have h6:arr[off+i*R.n+j]? =cs'[j]? :=this;rw[h6,h4]
 let f:Nat→α:=fun i=>if h:i<len then Classical.choose (hget i h)else R.dflt
 have hf:∀i,i<len→ok (f i)∧∀(j:Nat)(y:V),(R.enc (f i))[j]? =some y→∃v,arr[off+(i*R.n+j)]? =some v∧VRel (gW W) y v:=fun i hi=>by have e:f i=Classical.choose (hget i hi):=dif_pos hi;rw[e];exact Yat (hget i hi)
 have hll:((List.range len).map f).length=len:=Zs;refine⟨(List.range len).map f,⟨by rw[hll];exact hlen,fun x hx=>?_⟩,CR.one ?_⟩
 ·obtain⟨i,hi,rfl⟩:=Yab.1 hx;exact(hf i (Yb3.1 hi)).1
 rw[hll];refine Xl (gW_of hb') hl fun i x hx=>?_;have hi:i<len*R.n:=by have:=(Yt.1 hx).1;rwa [R.len_cells,hll]at this
 have hq:i/R.n<len:=(YaQ hn0).2 hi;have hr:=YaJ i hn0;have he:i=i/R.n*R.n+i%R.n:=by have:=Ybd i R.n;rw[Yav]at this;omega
 have hcell:(R.enc (f (i/R.n)))[i%R.n]? =some x:=by
  have h1:=R.at_ ((List.range len).map f) (i/R.n) (by rw[hll];exact hq);have h2:R.nth ((List.range len).map f) (i/R.n)=f (i/R.n):=by unfold Row.nth;rw[Ya,YX,List.getElem?_range hq];rfl
  rw[h2]at h1;have h3:((R.cells ((List.range len).map f)).drop (i/R.n*R.n))[i%R.n]? =some x:=by rw[Yak,←he];exact hx
  rwa [h1,YQ (by rw[R.len];exact hr)]at h3
 obtain⟨v,h1,h2⟩:=(hf _ hq).2 _ x hcell;exact⟨v,by rw[←he]at h1;exact h1,h2⟩⟩
def weightsEach_cons {H:Type}(t:TypeId)(ts:List TypeId)(d:DataW H)(r:List (DataW H)):DataW.weightsEach P (t::ts) (d::r)=d.weights P t++DataW.weightsEach P ts r:=by rw[DataW.weightsEach]
def Dec.two {t:TypeId}{f0 f1:Field}{α β:Type}{R:Row α}{S:Row β}{ok:α→Prop}{ok':β→Prop}(ht:P.underlying t=some (.struct #[f0,f1]))(d0:Dec P f0.type R ok)(d1:Dec P f1.type S ok') (o0:f0.offset=0) (o1:f1.offset=R.n) (hc:P.cellsOf t=R.n+S.n):Dec P t (zf8 R S) (fun a=>ok a.1∧ok' a.2):=⟨hc,fun {H enc W base held fuel cs x} h hw=>by obtain⟨y0,y1,m,hx,hl,h0,h1⟩:=Go.ChangeShapes.trod_struct2 ht h;rw[hx]at hw;simp only[DataW.weights,ht,YN,Ybg,weightsEach_cons]at hw;obtain⟨a,k0,r0⟩:=d0.dec h0 fun n hn=>hw n (YG _ hn);obtain⟨b,k1,r1⟩:=d1.dec h1 fun n hn=>hw n (YH _ (YG _ hn));rw[o0,d0.n]at r0;rw[o1,d1.n]at r1;exact⟨(a,b),⟨k0,k1⟩,Xw (R.len a) (S.len b) Zo r0 r1⟩⟩
def zc7 {α:Type}(l:List α)(n m:Nat)(h:n≤m):(((l.drop 0).take m).drop 0).take n=(l.drop 0).take n:=by rw[Y1,Y1,Ybu,Ya0 h]
def Dec.three {t:TypeId}{f0 f1 f2:Field}{α β γ:Type}{R:Row α}{S:Row β}{T:Row γ}{ok:α→Prop}{ok':β→Prop}{ok'':γ→Prop} (ht:P.underlying t=some (.struct #[f0,f1,f2])) (d0:Dec P f0.type R ok) (d1:Dec P f1.type S ok') (d2:Dec P f2.type T ok'') (o0:f0.offset=0) (o1:f1.offset=R.n) (o2:f2.offset=R.n+S.n) (hc:P.cellsOf t=R.n+S.n+T.n):Dec P t (zf8 (zf8 R S) T) (fun a=>(ok a.1.1∧ok' a.1.2)∧ok'' a.2):=⟨hc,fun {H enc W base held fuel cs x} h hw=>by
 obtain⟨y0,y1,y2,m,hx,hl,h0,h1,h2⟩:=Go.Deep.trod_struct3 ht h;rw[hx]at hw;simp only[DataW.weights,ht,YN,Ybg,weightsEach_cons]at hw;obtain⟨a,k0,r0⟩:=d0.dec h0 fun n hn=>hw n (YG _ hn);obtain⟨b,k1,r1⟩:=d1.dec h1 fun n hn=>hw n (YH _ (YG _ hn));obtain⟨c,k2,r2⟩:=d2.dec h2 fun n hn=>hw n (YH _ (YH _ (YG _ hn)));rw[o0,d0.n]at r0;rw[o1,d1.n]at r1;rw[o2,d2.n]at r2;refine⟨((a,b),c),⟨⟨k0,k1⟩,k2⟩,Xw (n:=R.n+S.n) (m:=T.n) (by show (R.enc a++S.enc b).length=_;rw[Yd,R.len,S.len]) (T.len c) Zo ?_ r2⟩;refine Xw (R.len a) (S.len b) (by rw[Y1,Yx];omega) ?_ ?_
 ·rw[zc7 _ _ _ Zo];exact r0
 rw[Y1,Yb4,YbQ,Ybu,Nat.min_self];exact r1⟩
def XB {t:TypeId}{f0 f1 f2 f3:Field}{α β γ δ:Type}{R:Row α}{S:Row β}{T:Row γ}{U:Row δ}{ok:α→Prop}{ok':β→Prop}{ok'':γ→Prop}{ok3:δ→Prop} (ht:P.underlying t=some (.struct #[f0,f1,f2,f3])) (d0:Dec P f0.type R ok) (d1:Dec P f1.type S ok') (d2:Dec P f2.type T ok'') (d3:Dec P f3.type U ok3) (o0:f0.offset=0) (o1:f1.offset=R.n) (o2:f2.offset=R.n+S.n) (o3:f3.offset=R.n+S.n+T.n) (hc:P.cellsOf t=R.n+S.n+T.n+U.n):Dec P t (zf8 (zf8 (zf8 R S) T) U) (fun a=>((ok a.1.1.1∧ok' a.1.1.2)∧ok'' a.1.2)∧ok3 a.2):=⟨hc,fun {H enc W base held fuel cs x} h hw=>by
 obtain⟨y0,y1,y2,y3,m,hx,hl,h0,h1,h2,h3⟩:=Go.Joins.trod_struct4 ht h;rw[hx]at hw;simp only[DataW.weights,ht,YN,Ybg,weightsEach_cons]at hw;obtain⟨a,k0,r0⟩:=d0.dec h0 fun n hn=>hw n (YG _ hn);obtain⟨b,k1,r1⟩:=d1.dec h1 fun n hn=>hw n (YH _ (YG _ hn));obtain⟨c,k2,r2⟩:=d2.dec h2 fun n hn=>hw n (YH _ (YH _ (YG _ hn)));obtain⟨d,k3,r3⟩:=d3.dec h3 fun n hn=>hw n (YH _ (YH _ (YH _ (YG _ hn))));rw[o0,d0.n]at r0;rw[o1,d1.n]at r1;rw[o2,d2.n]at r2;rw[o3,d3.n]at r3;refine⟨(((a,b),c),d),⟨⟨⟨k0,k1⟩,k2⟩,k3⟩,Xw (n:=R.n+S.n+T.n) (m:=U.n) (by show (R.enc a++S.enc b++T.enc c).length=_;rw[Yd,Yd,R.len,S.len,T.len]) (U.len d) Zo ?_ r3⟩;refine Xw (n:=R.n+S.n) (m:=T.n) (by show (R.enc a++S.enc b).length=_;rw[Yd,R.len,S.len]) (T.len c) (by rw[Y1,Yx];omega) ?_ ?_
 ·rw[zc7 _ _ _ Zo];refine Xw (R.len a) (S.len b) (by rw[Y1,Yx];omega) ?_ ?_
  ·rw[zc7 _ _ _ Zo];exact r0
  rw[Y1,Yb4,YbQ,Ybu,Nat.min_self];exact r1
 rw[Y1,Yb4,YbQ,Ybu,Nat.min_self];exact r2⟩
def Dec.cast {t:TypeId}{α β:Type}{R:Row α}{S:Row β}{ok:α→Prop}{ok':β→Prop}(d:Dec P t R ok)(f:α→β)(hn:R.n=S.n)(h:∀a,S.enc (f a)=R.enc a)(hok:∀a,ok a→ok' (f a)):Dec P t S ok':=
 ⟨d.n.trans hn,fun e hw=>by obtain⟨a,h1,h2⟩:=d.dec e hw;exact⟨f a,hok a h1,by rw[h];exact h2⟩⟩
def Dec.arg1 {t:TypeId}{α:Type}{R:Row α}{ok:α→Prop}(d:Dec P t R ok){H:Type}{enc:TypeId×Value→H}{W:World}{base:Nat}{held:Bool}{v:Value}{x:DataW H}{p:List MemPlace}(h:DataW.Trod enc P W base (fun _=>true) held t v x p) (hv:v.cells=#[v]) (hw:∀n∈x.weights P t,n≤reachBytes):∃a,ok a∧∀y,R.enc a=[y]→VRel (gW W) y v:=by obtain⟨fuel,h⟩:=h;obtain⟨a,h1,h2⟩:=d.dec h hw;refine⟨a,h1,fun y hy=>?_⟩;rw[hy,hv]at h2;obtain⟨v',e,r⟩:=h2.2 0 y rfl;cases e;exact r
def Dec.argS {t:TypeId}{α:Type}{R:Row α}{ok:α→Prop}(d:Dec P t R ok){H:Type}{enc:TypeId×Value→H}{W:World}{base:Nat}{held:Bool}{v:Value}{x:DataW H}{p:List MemPlace}(h:DataW.Trod enc P W base (fun _=>true) held t v x p) (hv:∃cs,v=.agg cs) (hw:∀n∈x.weights P t,n≤reachBytes):∃a,ok a∧VRel (gW W) (.agg (R.enc a)) v:=by obtain⟨fuel,h⟩:=h;obtain⟨a,h1,h2⟩:=d.dec h hw;obtain⟨cs,rfl⟩:=hv;exact⟨a,h1,Xj (by have:=h2.1;simp only[Value.cells,Y4]at this;exact this) fun i x hx=>by obtain⟨v,e,r⟩:=h2.2 i x hx;exact⟨v,by simpa[Value.cells]using e,r⟩⟩
end Go.Ab

namespace Go.Proofs
open Go.Ab Go.Cnt
def ziP {P:Program}(t:TypeId)(a b c:V)(bs:ZH)(m:Nat):zM P t 3 [(0,a),(1,b),(2,c)] ⟨bs,m⟩=bsL (zbX P t) [a,b,c] ⟨bs,m⟩ (zcm P t 3 [(0,a),(1,b),(2,c)] ⟨bs,m⟩):=by
 unfold bsL;split
 ·rename_i s z hb;split
  ·rename_i hc;obtain⟨rfl,h1,h2,h3⟩:=hc;simp only[Ybs,YcE,YaC,Yg]at h3;obtain⟨a1,a2⟩:=V.one_cells h3.1;obtain⟨b1,b2⟩:=V.one_cells h3.2.1;obtain⟨c1,c2⟩:=V.one_cells h3.2.2;unfold zbX at hb;split at hb
   ·rename_i e he;split at hb
    ·rename_i s' z' k1 k2;cases hb;match hz:(cv z).cellsV,h2 with
     |[y],_=>
      have zz:zbc P e 3=[y,y,y]:=by simp[zbc,k2,hz]
      simp[zM,he,k1,k2,zdo,a1,a2,b1,b2,c1,c2,zz,hz,h1,putCells,Hp.new]
    cases hb
   cases hb
  rfl
 rfl
attribute [go_sem] ziP
def rowR:Row (List Str) where
 enc s:=[.fs (strs s) s.length]
 n:=1
 dflt:=[]
 len _:=rfl
 pos:=Zd
 pure a x h:=by simp only[Yy,YaE,Yce]at h;subst h;exact .fs (zaN a)
 one _:=rfl
 inj a b h:=by simp only[Yw,V.fs.injEq,Yap]at h;exact za1 h.1
def zoV(m:List (List Str)):ZA:=rowR.cells m
def nthR(m:List (List Str))(i:Nat):List Str:=rowR.nth m i
def ztG(m:List (List Str)):∀x∈zoV m,Pure x:=rowR.pure_cells m
def zo5(m:List (List Str)):(∀x∈zoV m,Pure x)↔True:=rowR.pure_cellsP m
def ztU {π:Nat→Nat}{N:Nat→Prop}(m:List (List Str)):LRel (Rn π N) (zoV m) (zoV m)↔True:=rowR.lrel_cells m
def zwC {a b:List (List Str)}(h:zoV a=zoV b):a=b:=rowR.cells_inj h
def matR:Row (List (List Str)) where
 enc m:=[.fs (zoV m) m.length]
 n:=1
 dflt:=[]
 len _:=rfl
 pos:=Zd
 pure a x h:=by simp only[Yy,YaE,Yce]at h;subst h;exact .fs (ztG a)
 one _:=rfl
 inj a b h:=by simp only[Yw,V.fs.injEq,Yap]at h;exact zwC h.1
def matsC(l:List (List (List Str))):ZA:=matR.cells l
def zyi(m:List (List (List Str))):(matsC m).length=m.length:=(matR.len_cells m).trans (Yag _)
attribute [go_sem] zo5 ztU zyi List.getElem?_cons_zero List.getElem?_cons_succ
structure Mdl where
 tags:List Str
 words:List Str
 next:List (List Str)
 emit:List (List Str)
end Go.Proofs

namespace Go.Ab
end Go.Ab

namespace Go.Ab
end Go.Ab

namespace Go.Ab
variable {P:Program}
structure Meth(α σ:Type) where
 pat:α→ZA
 cel:σ→ZA
 cond:α→σ→Prop
 val:α→σ→V
 upd:α→σ→σ
 patI:∀x y,pat x=pat y→x=y
 celI:∀x y,cel x=cel y→x=y
 patP:∀x,∀v∈pat x,Pure v
 celP:∀s,∀v∈cel s,Pure v
 valP:∀x s,Pure (val x s)
variable {α σ:Type}(M:Meth α σ)
def HCall.plain {f:FuncId}{args:ZA}{v:V}(hN:NCall P f args [] [] v ⟨[],0⟩)(hv:Pure v)(ha:∀x∈args,Pure x)(H:Hp)(hk:∀b x,H.get b=some x→b<H.next):HCall P f args H ⟨True,v,H,[],[]⟩:=
 HCall.none hN hv [] args H rfl .nil (zA ha) (fun i x hx=>by simp at hx) (fun i x hx=>by simp at hx) hk
end Go.Ab

namespace Go.Proofs
open Go.Ab Go.Cnt
section
variable {C:Cfg}{P:Program}{K:Out→St→Prop}{st:List Fr}{ops:Array Oper}{os:List Oper}{env:Env}{h:Hp}
end
end Go.Proofs

namespace Go.Proofs
open Go.Ab Go.Pl
def resP:V→ZL×Int
 | .tup [.str s,.int .i64 e]=>(s,e)
 |_=>([],0)
theorem resP_tup(s:ZL)(e:Int):resP (.tup [.str s,.int .i64 e])=(s,e):=rfl
theorem resP_err(e:Int):resP (errV e)=([],e):=rfl
end Go.Proofs

namespace Go.Ab
def zgr(f:V→V→Bool):ZA→ZA→Bool
 |[],[]=>true
 |a::r,b::s=>f a b&&zgr f r s
 |_,_=>false
def beqN:Nat→V→V→Bool
 |0,_,_=>false
 |n+1,x,y=>
  match x,y with
  | .bool a,.bool b=>a==b
  | .int k a,.int k' b=>decide (k=k')&&decide (a=b)
  | .str a,.str b=>decide (a=b)
  | .nilS,.nilS=>true
  | .sl b o l s c,.sl b' o' l' s' c'=>Nat.beq b b'&&Nat.beq o o'&&Nat.beq l l'&&Nat.beq s s'&&decide (c=c')
  | .fs cs n1,.fs cs' n2=>Nat.beq n1 n2&&zgr (beqN n) cs cs'
  | .nilP,.nilP=>true
  | .ptr b o,.ptr b' o'=>Nat.beq b b'&&Nat.beq o o'
  | .fp cs,.fp cs'=>zgr (beqN n) cs cs'
  | .nilM,.nilM=>true
  | .map b,.map b'=>Nat.beq b b'
  | .fn f cs,.fn f' cs'=>Nat.beq f f'&&zgr (beqN n) cs cs'
  | .bnd f cs,.bnd f' cs'=>Nat.beq f f'&&zgr (beqN n) cs cs'
  | .nilF,.nilF=>true
  | .ifc t v,.ifc t' v'=>Nat.beq t t'&&beqN n v v'
  | .nilI,.nilI=>true
  | .agg cs,.agg cs'=>zgr (beqN n) cs cs'
  | .tup cs,.tup cs'=>zgr (beqN n) cs cs'
  | .any,.any=>true
  | .opt b v,.opt b' v'=>(b==b')&&beqN n v v'
  |_,_=>false
def beqV(x y:V):Bool:=beqN 12 x y
def beqVs(l r:ZA):Bool:=zgr (beqN 12) l r
def zqn {f:V→V→Bool}(hf:∀a b,f a b=true→a=b):∀ {l r:ZA},zgr f l r=true→l=r
 |[],r,h=>by cases r<;>simp[zgr]at h;rfl
 |a::l,r,h=>by
  cases r with
  |nil=>simp[zgr]at h
  |cons b s=>simp[zgr]at h;rw[hf a b h.1,zqn hf h.2]
def zqm:∀(n:Nat)(a b:V),beqN n a b=true→a=b
 |0,a,b,h=>by simp[beqN]at h
 |n+1,a,b,h=>by
  have ih:=zqm n;have il:∀ {l r:ZA},zgr (beqN n) l r=true→l=r:=zqn ih;unfold beqN at h;split at h<;>(try simp only[Yg,YaN,Yq,beq_iff_eq]at h)<;>first
   |rfl
   |(rw[h];done)
   |(rw[h.1,h.2];done)
   |(rw[h.1,il h.2];done)
   |(rw[il h];done)
   |(rw[h.1,ih _ _ h.2];done)
   |(simp[h];done)
   |(cases h;done)
def zlV {a b:V}(h:beqV a b=true):a=b:=zqm _ _ _ h
def zsu {l r:ZA}(h:beqVs l r=true):l=r:=zqn (zqm _) h
def zvw:List (Nat×V×V)→List (Nat×V×V)→Bool
 |[],[]=>true
 |a::r,b::s=>Nat.beq a.1 b.1&&beqV a.2.1 b.2.1&&beqV a.2.2 b.2.2&&zvw r s
 |_,_=>false
def zsv:∀ {a b:List (Nat×V×V)},zvw a b=true→a=b
 |[],b,h=>by cases b<;>simp[zvw]at h;rfl
 |(n,x,y)::r,b,h=>by
  cases b with
  |nil=>simp[zvw]at h
  |cons q s=>obtain⟨m,x',y'⟩:=q;simp[zvw]at h;rw[h.1.1.1,zlV h.1.1.2,zlV h.1.2,zsv h.2]
def beqB:Blk→Blk→Bool
 | .cells cs,.cells cs'=>beqVs cs cs'
 | .mp es c,.mp es' c'=>Nat.beq c c'&&zvw es es'
 | .it m bs l s t c,.it m' bs' l' s' t' c'=>decide (m=m'∧bs=bs'∧l=l'∧s=s'∧t=t'∧c=c')
 | .ty t cs,.ty t' cs'=>Nat.beq t t'&&beqVs cs cs'
 |_,_=>false
def beqB_eq {a b:Blk}(h:beqB a b=true):a=b:=by
 cases a<;>cases b<;>simp[beqB]at h
 ·rw[zsu h]
 ·rw[h.1,zsv h.2]
 ·obtain⟨h1,h2,h3,h4,h5,h6⟩:=h;rw[h1,h2,h3,h4,h5,h6]
 rw[h.1,zsu h.2]
def zqo:ZH→ZH→Bool
 |[],[]=>true
 |a::r,b::s=>Nat.beq a.1 b.1&&beqB a.2 b.2&&zqo r s
 |_,_=>false
def zsw:∀ {a b:ZH},zqo a b=true→a=b
 |[],b,h=>by cases b<;>simp[zqo]at h;rfl
 |(n,x)::r,b,h=>by
  cases b with
  |nil=>simp[zqo]at h
  |cons q s=>obtain⟨m,x'⟩:=q;simp[zqo]at h;rw[h.1.1,beqB_eq h.1.2,zsw h.2]
end Go.Ab
