/- What came in, as abstract values: types read as data, one combinator a kind. -/
import Derived.Test.YthbimeikbkjnkaaGreatDoorS0Types
import Derived.ProofKit
import Derived.Lib.SmallJoins
import Derived.Deep.Slices
import Derived.Deep.Strs
import Derived.Handed
set_option linter.all false
set_option maxHeartbeats 16000000
set_option maxRecDepth 100000
namespace Go.Ab
def gW(W:World):G:=⟨fun _=>none,fun c=>match W.heap[c]? with|some (.cells arr _ _)=>some arr|_=>none⟩
theorem gW_of {W:World}{c:Nat}{arr:Array Value}{t:TypeId}{fr:Nat×Nat}(h:W.heap[c]? =some (.cells arr t fr)):(gW W).phi c=some arr:=by simp only [gW,h]
theorem gW_frz {W:World}:∀ c arr,(gW W).phi c=some arr→∃ t fr,W.heap[c]? =some (.cells arr t fr):=by
 intro c arr e;simp only [gW]at e;split at e
 ·rename_i a t fr h;cases e;exact⟨t,fr,h⟩
 ·cases e
theorem zz0 {W:World}{a:Addr}{v:Value}(h:W.cell? a=some v):a.spot=none∧∃ arr t fr,W.heap[a.block]? =some (.cells arr t fr)∧arr[a.off]? =some v:=by
 unfold World.cell? at h;split at h
 ·rename_i arr t fr hb;split at h
  ·cases h
  ·rename_i hs;refine⟨?_,arr,t,fr,hb,h⟩;cases e:a.spot with
   |none=>rfl
   |some x=>rw [e]at hs;simp at hs
 ·cases h
def strR:Row (List UInt8) where
 enc s:=[.str s]
 n:=1
 dflt:=[]
 len _:=rfl
 pos:=by decide
 pure a x h:=by simp only [YA,Y1,Ya0]at h;subst h;exact .str _
 one _:=rfl
 inj a b h:=by simpa using h
def intR(k:IntKind):Row Int where
 enc s:=[.int k s]
 n:=1
 dflt:=0
 len _:=rfl
 pos:=by decide
 pure a x h:=by simp only [YA,Y1,Ya0]at h;subst h;exact .int _ _
 one _:=rfl
 inj a b h:=by simpa using h
def boolR:Row Bool where
 enc s:=[.bool s]
 n:=1
 dflt:=false
 len _:=rfl
 pos:=by decide
 pure a x h:=by simp only [YA,Y1,Ya0]at h;subst h;exact .bool _
 one _:=rfl
 inj a b h:=by simpa using h
def slR {α:Type}(R:Row α):Row (List α) where
 enc l:=[.fs (R.cells l) l.length]
 n:=1
 dflt:=[]
 len _:=rfl
 pos:=by decide
 pure a x h:=by simp only [YA,Y1,Ya0]at h;subst h;exact .fs (R.pure_cells a)
 one _:=rfl
 inj a b h:=by simp only [Yu,V.fs.injEq,Yam]at h;exact R.cells_inj h.1
def zkL {α β:Type}(R:Row α)(S:Row β):Row (α×β) where
 enc p:=R.enc p.1++S.enc p.2
 n:=R.n+S.n
 dflt:=(R.dflt,S.dflt)
 len a:=by rw [Yi,R.len,S.len]
 pos:=by have:=R.pos;omega
 pure a x h:=(Yaf.1 h).elim (R.pure _ x) (S.pure _ x)
 one a:=by rw [YbL,R.one,S.one];rfl
 inj a b h:=by obtain⟨h1,h2⟩:=List.append_inj h (by rw [R.len,R.len]);exact YT (R.inj _ _ h1) (S.inj _ _ h2)
def CR(W:World)(l:List V)(cs:List Value):Prop:=cs.length=l.length∧∀(k:Nat) (y:V),l[k]? =some y→∃ v,cs[k]? =some v∧VRel (gW W) y v
theorem CR.one {W:World}{y:V}{v:Value}(h:VRel (gW W) y v):CR W [y] [v]:=⟨rfl,fun k x e=>by
 match k with
 |0=>cases e;exact⟨v,rfl,h⟩
 |k+1=>simp at e⟩
theorem CR.app {W:World}{l r:List V}{cs:List Value}{n m:Nat}(hl:l.length=n)(hr:r.length=m)(hc:cs.length=n+m)(h:CR W l ((cs.drop 0).take n))(k:CR W r ((cs.drop n).take m)):CR W (l++r) cs:=by
 refine⟨by rw [Yi];omega,fun i y e=>?_⟩;by_cases hi:i<l.length
 ·rw [Y4 hi]at e;obtain⟨v,h1,h2⟩:=h.2 i y e;rw [Y2,Yb2,Yf (by omega)]at h1;exact⟨v,h1,h2⟩
 ·rw [YaF (by omega)]at e;obtain⟨v,h1,h2⟩:=k.2 _ y e;have hlt:=(Yx.1 h1).1;rw [YG]at hlt;rw [Yb2,Yf (by omega),Yag]at h1;rw [show n+(i - l.length)=i by omega]at h1;exact⟨v,h1,h2⟩
structure Dec(P:Program)(t:TypeId){α:Type}(R:Row α)(ok:α→Prop):Prop where
 n:P.cellsOf t=R.n
 dec:∀ {H:Type} {enc:TypeId×Value→H} {W:World} {base:Nat} {held:Bool} {fuel:Nat} {cs:List Value} {x:DataW H×List MemPlace},
  DataW.trod enc P W base (fun _=>true) held fuel t cs=some x→(∀ n∈x.1.weights P t,n≤reachBytes)→∃ a,ok a∧CR W (R.enc a) cs
variable {P:Program}
theorem Dec.str {t:TypeId}(ht:P.underlying t=some .string)(hc:P.cellsOf t=1):Dec P t strR (fun s=>s.length≤reachBytes):=⟨hc,fun h hw=>by obtain⟨s,e,ex,_⟩:=DataW.trod_string ht h;subst e;rw [ex]at hw;refine⟨s.data.toList,hw _ ?_,CR.one (.str rfl)⟩;simp [DataW.weights]⟩
theorem Dec.int {t:TypeId}{k:IntKind}(ht:P.underlying t=some (.int k))(hc:P.cellsOf t=1):Dec P t (intR k) (fun n=>(Lit.int k n).wf=true):=⟨hc,fun h _=>by obtain⟨n,e,ex,hw⟩:=DataW.trod_int ht h;subst e;exact⟨n,hw,CR.one (.int _ _)⟩⟩
theorem Dec.bool {t:TypeId}(ht:P.underlying t=some .bool)(hc:P.cellsOf t=1):Dec P t boolR (fun _=>True):=⟨hc,fun h _=>by obtain⟨n,e,ex⟩:=DataW.trod_bool ht h;subst e;exact⟨n,trivial,CR.one (.bool _)⟩⟩
theorem weightsAll_mem {H:Type}{e:TypeId}:∀ {l:List (DataW H)} {d:DataW H},d∈l→∀ n∈d.weights P e,n∈DataW.weightsAll P e l
 |[],_,h,_,_=>by cases h
 |x::l,d,h,n,hn=>by
  rw [DataW.weightsAll];rcases YA.1 h with rfl|h
  ·exact Yp _ hn
  ·exact Yt _ (weightsAll_mem h n hn)
theorem Dec.slice {t e:TypeId}{α:Type}{R:Row α}{ok:α→Prop}(d:Dec P e R ok)(ht:P.underlying t=some (.slice e))(hc:P.cellsOf t=1)(hb:0<P.bytesOf e):
 Dec P t (slR R) (fun l=>l.length≤reachBytes∧∀ a∈l,ok a):=⟨hc,fun {H enc W base held fuel cs x} h hw=>by
 rcases Go.Deep.open_slice ht h with⟨hv,hx⟩|⟨a,len,cap,m,k,D,Pl,hv,_,hl,_,hm,hx,hel⟩
 ·subst hv
  exact⟨[],⟨by simp,fun a ha=>by cases ha⟩,CR.one (.fs0 fun _=>rfl)⟩
 subst hv
 have hm':m=cap:=by rw [hm];rfl
 subst hm'
 clear hm
 rw [hx]at hw
 simp only [DataW.weights,ht]at hw
 have hlen:len≤reachBytes:=by have:=hw ((((List.range len).map D).length+((List.range (m - len)).map fun j=>D (len+j)).length)*P.bytesOf e) (YF ..);simp only [Yb5,List.length_range]at this;have h2:len*1≤(len+(m - len))*P.bytesOf e:=Yak (by omega) hb;omega
 have hD:∀ i,i<len→∀ n∈(D i).weights P e,n≤reachBytes:=fun i hi n hn=>
  hw n (Yz _ (Yp _ (weightsAll_mem (Yab.2 ⟨i,Ycq.2 hi,rfl⟩) n hn)))
 by_cases h0:len=0
 ·subst h0
  exact⟨[],⟨by simp,fun a ha=>by cases ha⟩,CR.one (.fs0 fun h=>by cases h)⟩
 rw [d.n]at hel
 have hell:∀ i,i<len→∃(x:α) (cs':List Value),ok x∧W.cells? base (a.add (i*R.n)) R.n=some cs'∧CR W (R.enc x) cs':=fun i hi=>by obtain⟨cs',h1,h2⟩:=hel i (by omega);obtain⟨x,h3,h4⟩:=d.dec h2 (hD i hi);exact⟨x,cs',h3,h1,h4⟩
 obtain⟨x0,cs0,_,hc0,hr0⟩:=hell 0 (by omega)
 have hn0:=R.pos
 have hc00:=(World.cells?_some hc0).2.2 0 hn0
 have ha0:(a.add (0*R.n)).add 0=a:=by rw [Ybm];rfl
 rw [ha0]at hc00
 have hsome:∃ v,cs0[0]? =some v:=by have:=hr0.1;rw [R.len]at this;exact⟨cs0[0],Yb (by omega)⟩
 obtain⟨v0,hv0⟩:=hsome
 rw [hv0]at hc00
 obtain⟨hsp,arr,ty,fr,hb',_⟩:=zz0 hc00
 obtain⟨b,off,sp⟩:=a
 simp only at hsp hb'
 subst hsp
 have hat:∀ o i,((⟨b,o,none⟩:Addr).add i)=⟨b,o+i,none⟩:=fun o i=>by
  unfold Addr.add;split
  ·rename_i h;rw [h];rfl
  ·rfl
 have hget:∀ i,i<len→∃ x:α,ok x∧∀(j:Nat) (y:V),(R.enc x)[j]? =some y→∃ v,arr[off+(i*R.n+j)]? =some v∧VRel (gW W) y v:=fun i hi=>by
  obtain⟨x,cs',h1,h2,h3⟩:=hell i hi;refine⟨x,h1,fun j y hy=>?_⟩;obtain⟨v,h4,h5⟩:=h3.2 j y hy;have hj:j<R.n:=by have:=(Yx.1 hy).1;rwa [R.len]at this
  have:=(World.cells?_some h2).2.2 j hj;rw [hat,hat]at this;unfold World.cell? at this;rw [hb']at this;refine⟨v,?_,h5⟩;rw [←YN];have h6:arr[off+i*R.n+j]? =cs'[j]? :=this;rw [h6,h4]
 let f:Nat→α:=fun i=>if h:i<len then Classical.choose (hget i h)else R.dflt
 have hf:∀ i,i<len→ok (f i)∧∀(j:Nat) (y:V),(R.enc (f i))[j]? =some y→∃ v,arr[off+(i*R.n+j)]? =some v∧VRel (gW W) y v:=fun i hi=>by have e:f i=Classical.choose (hget i hi):=dif_pos hi;rw [e];exact YaZ (hget i hi)
 have hll:((List.range len).map f).length=len:=by simp
 refine⟨(List.range len).map f,⟨by rw [hll];exact hlen,fun x hx=>?_⟩,CR.one ?_⟩
 ·obtain⟨i,hi,rfl⟩:=Yab.1 hx
  exact(hf i (Ycq.1 hi)).1
 rw [hll]
 refine VRel.mk_fs (gW_of hb') hl fun i x hx=>?_
 have hi:i<len*R.n:=by have:=(Yx.1 hx).1;rwa [R.len_cells,hll]at this
 have hq:i / R.n<len:=(YaH hn0).2 hi
 have hr:=YaM i hn0
 have he:i=i / R.n*R.n+i % R.n:=by have:=Ya2 i R.n;rw [Yay]at this;omega
 have hcell:(R.enc (f (i / R.n)))[i % R.n]? =some x:=by
  have h1:=R.at_ ((List.range len).map f) (i / R.n) (by rw [hll];exact hq);have h2:R.nth ((List.range len).map f) (i / R.n)=f (i / R.n):=by unfold Row.nth;rw [Ya,YX,YbQ hq];rfl
  rw [h2]at h1;have h3:((R.cells ((List.range len).map f)).drop (i / R.n*R.n))[i % R.n]? =some x:=by rw [Yag, ←he];exact hx
  rwa [h1,Y4 (by rw [R.len];exact hr)]at h3
 obtain⟨v,h1,h2⟩:=(hf _ hq).2 _ x hcell
 exact⟨v,by rw [←he]at h1;exact h1,h2⟩⟩
theorem weightsEach_cons {H:Type}(t:TypeId)(ts:List TypeId)(d:DataW H)(r:List (DataW H)):DataW.weightsEach P (t::ts) (d::r)=d.weights P t++DataW.weightsEach P ts r:=by rw [DataW.weightsEach]
theorem Dec.two {t:TypeId}{f0 f1:Field}{α β:Type}{R:Row α}{S:Row β}{ok:α→Prop}{ok':β→Prop}(ht:P.underlying t=some (.struct #[f0,f1]))(d0:Dec P f0.type R ok)(d1:Dec P f1.type S ok')
 (o0:f0.offset=0) (o1:f1.offset=R.n) (hc:P.cellsOf t=R.n+S.n):Dec P t (zkL R S) (fun a=>ok a.1∧ok' a.2):=⟨hc,fun {H enc W base held fuel cs x} h hw=>by
 obtain⟨y0,y1,m,hx,hl,h0,h1⟩:=Go.ChangeShapes.trod_struct2 ht h
 rw [hx]at hw
 simp only [DataW.weights,ht,YM,Ya5,weightsEach_cons]at hw
 obtain⟨a,k0,r0⟩:=d0.dec h0 fun n hn=>hw n (Yp _ hn)
 obtain⟨b,k1,r1⟩:=d1.dec h1 fun n hn=>hw n (Yt _ (Yp _ hn))
 rw [o0,d0.n]at r0
 rw [o1,d1.n]at r1
 exact⟨(a,b),⟨k0,k1⟩,CR.app (R.len a) (S.len b) (by omega) r0 r1⟩⟩
theorem zc7 {α:Type}(l:List α)(n m:Nat)(h:n≤m):(((l.drop 0).take m).drop 0).take n=(l.drop 0).take n:=by rw [Y2,Y2,YbW,YaK h]
theorem Dec.three {t:TypeId}{f0 f1 f2:Field}{α β γ:Type}{R:Row α}{S:Row β}{T:Row γ}{ok:α→Prop}{ok':β→Prop}{ok'':γ→Prop}
 (ht:P.underlying t=some (.struct #[f0,f1,f2])) (d0:Dec P f0.type R ok) (d1:Dec P f1.type S ok') (d2:Dec P f2.type T ok'') (o0:f0.offset=0) (o1:f1.offset=R.n) (o2:f2.offset=R.n+S.n) (hc:P.cellsOf t=R.n+S.n+T.n):Dec P t (zkL (zkL R S) T) (fun a=>(ok a.1.1∧ok' a.1.2)∧ok'' a.2):=⟨hc,fun {H enc W base held fuel cs x} h hw=>by
 obtain⟨y0,y1,y2,m,hx,hl,h0,h1,h2⟩:=Go.Deep.trod_struct3 ht h
 rw [hx]at hw
 simp only [DataW.weights,ht,YM,Ya5,weightsEach_cons]at hw
 obtain⟨a,k0,r0⟩:=d0.dec h0 fun n hn=>hw n (Yp _ hn)
 obtain⟨b,k1,r1⟩:=d1.dec h1 fun n hn=>hw n (Yt _ (Yp _ hn))
 obtain⟨c,k2,r2⟩:=d2.dec h2 fun n hn=>hw n (Yt _ (Yt _ (Yp _ hn)))
 rw [o0,d0.n]at r0
 rw [o1,d1.n]at r1
 rw [o2,d2.n]at r2
 refine⟨((a,b),c),⟨⟨k0,k1⟩,k2⟩,CR.app (n:=R.n+S.n) (m:=T.n) (by show (R.enc a++S.enc b).length=_;rw [Yi,R.len,S.len]) (T.len c) (by omega) ?_ r2⟩
 refine CR.app (R.len a) (S.len b) (by rw [Y2,YG];omega) ?_ ?_
 ·rw [zc7 _ _ _ (by omega)];exact r0
 ·rw [Y2,Yb9,YbV,YbW,Nat.min_self];exact r1⟩
theorem Dec.four {t:TypeId}{f0 f1 f2 f3:Field}{α β γ δ:Type}{R:Row α}{S:Row β}{T:Row γ}{U:Row δ}{ok:α→Prop}{ok':β→Prop}{ok'':γ→Prop}{ok3:δ→Prop}
 (ht:P.underlying t=some (.struct #[f0,f1,f2,f3])) (d0:Dec P f0.type R ok) (d1:Dec P f1.type S ok') (d2:Dec P f2.type T ok'') (d3:Dec P f3.type U ok3) (o0:f0.offset=0) (o1:f1.offset=R.n) (o2:f2.offset=R.n+S.n) (o3:f3.offset=R.n+S.n+T.n) (hc:P.cellsOf t=R.n+S.n+T.n+U.n):
 Dec P t (zkL (zkL (zkL R S) T) U) (fun a=>((ok a.1.1.1∧ok' a.1.1.2)∧ok'' a.1.2)∧ok3 a.2):=⟨hc,fun {H enc W base held fuel cs x} h hw=>by
 obtain⟨y0,y1,y2,y3,m,hx,hl,h0,h1,h2,h3⟩:=Go.Joins.trod_struct4 ht h
 rw [hx]at hw
 simp only [DataW.weights,ht,YM,Ya5,weightsEach_cons]at hw
 obtain⟨a,k0,r0⟩:=d0.dec h0 fun n hn=>hw n (Yp _ hn)
 obtain⟨b,k1,r1⟩:=d1.dec h1 fun n hn=>hw n (Yt _ (Yp _ hn))
 obtain⟨c,k2,r2⟩:=d2.dec h2 fun n hn=>hw n (Yt _ (Yt _ (Yp _ hn)))
 obtain⟨d,k3,r3⟩:=d3.dec h3 fun n hn=>hw n (Yt _ (Yt _ (Yt _ (Yp _ hn))))
 rw [o0,d0.n]at r0
 rw [o1,d1.n]at r1
 rw [o2,d2.n]at r2
 rw [o3,d3.n]at r3
 refine⟨(((a,b),c),d),⟨⟨⟨k0,k1⟩,k2⟩,k3⟩,CR.app (n:=R.n+S.n+T.n) (m:=U.n) (by show (R.enc a++S.enc b++T.enc c).length=_;rw [Yi,Yi,R.len,S.len,T.len]) (U.len d) (by omega) ?_ r3⟩
 refine CR.app (n:=R.n+S.n) (m:=T.n) (by show (R.enc a++S.enc b).length=_;rw [Yi,R.len,S.len]) (T.len c) (by rw [Y2,YG];omega) ?_ ?_
 ·rw [zc7 _ _ _ (by omega)]
  refine CR.app (R.len a) (S.len b) (by rw [Y2,YG];omega) ?_ ?_
  ·rw [zc7 _ _ _ (by omega)];exact r0
  ·rw [Y2,Yb9,YbV,YbW,Nat.min_self];exact r1
 ·rw [Y2,Yb9,YbV,YbW,Nat.min_self];exact r2⟩
theorem Dec.cast {t:TypeId}{α β:Type}{R:Row α}{S:Row β}{ok:α→Prop}{ok':β→Prop}(d:Dec P t R ok)(f:α→β)(hn:R.n=S.n)(h:∀ a,S.enc (f a)=R.enc a)(hok:∀ a,ok a→ok' (f a)):Dec P t S ok':=
 ⟨d.n.trans hn,fun e hw=>by obtain⟨a,h1,h2⟩:=d.dec e hw;exact⟨f a,hok a h1,by rw [h];exact h2⟩⟩
theorem Dec.arg1 {t:TypeId}{α:Type}{R:Row α}{ok:α→Prop}(d:Dec P t R ok){H:Type}{enc:TypeId×Value→H}{W:World}{base:Nat}{held:Bool}{v:Value}{x:DataW H}{p:List MemPlace}(h:DataW.Trod enc P W base (fun _=>true) held t v x p)
 (hv:v.cells=#[v]) (hw:∀ n∈x.weights P t,n≤reachBytes):∃ a,ok a∧∀ y,R.enc a=[y]→VRel (gW W) y v:=by
 obtain⟨fuel,h⟩:=h
 obtain⟨a,h1,h2⟩:=d.dec h hw
 refine⟨a,h1,fun y hy=>?_⟩
 rw [hy,hv]at h2
 obtain⟨v',e,r⟩:=h2.2 0 y rfl
 cases e
 exact r
theorem Dec.argS {t:TypeId}{α:Type}{R:Row α}{ok:α→Prop}(d:Dec P t R ok){H:Type}{enc:TypeId×Value→H}{W:World}{base:Nat}{held:Bool}{v:Value}{x:DataW H}{p:List MemPlace}(h:DataW.Trod enc P W base (fun _=>true) held t v x p)
 (hv:∃ cs,v=.agg cs) (hw:∀ n∈x.weights P t,n≤reachBytes):∃ a,ok a∧VRel (gW W) (.agg (R.enc a)) v:=by
 obtain⟨fuel,h⟩:=h
 obtain⟨a,h1,h2⟩:=d.dec h hw
 obtain⟨cs,rfl⟩:=hv
 exact⟨a,h1,VRel.mk_agg (by have:=h2.1;simp only [Value.cells,Yac]at this;exact this) fun i x hx=>by obtain⟨v,e,r⟩:=h2.2 i x hx;exact⟨v,by simpa [Value.cells] using e,r⟩⟩
end Go.Ab

namespace Go.Ab
variable {P:Program}
def EndN(C:Cfg)(P:Program)(rs:List ResultVar)(v:V)(Hc:Hp):Out→St→Prop
 | .norm,s| .ret,s=>∃ env',Sub C s ⟨env',Hc⟩∧(resL P ⟨env',Hc⟩ rs).1∧tupV (resL P ⟨env',Hc⟩ rs).2=v
 |_,_=>False
theorem endN_ret {C:Cfg}(rs:List ResultVar)(v:V)(Hc:Hp)(s:St):EndN C P rs v Hc .ret s=∃ env',Sub C s ⟨env',Hc⟩∧(resL P ⟨env',Hc⟩ rs).1∧tupV (resL P ⟨env',Hc⟩ rs).2=v:=rfl
theorem zzt {C:Cfg}(rs:List ResultVar)(v:V)(Hc:Hp)(s:St):EndN C P rs v Hc .norm s=∃ env',Sub C s ⟨env',Hc⟩∧(resL P ⟨env',Hc⟩ rs).1∧tupV (resL P ⟨env',Hc⟩ rs).2=v:=rfl
theorem numB_nil(i:Nat):numB i []=[]:=rfl
theorem zx2(i:Nat)(x:Blk)(r:List Blk):numB i (x::r)=(i,x)::numB (i+1) r:=rfl
attribute [go_sem] endN_ret zzt numB_nil zx2
theorem NCall.walk {nt:Nat}(keep:List Nat)(fz:List Nat)(nx:Nat){Γ:FuncId→List V→Option PR}{Δ:FuncId→List V→Hp→Option AR}{f:FuncId}{fn:Func}{c:Code}{args:List V}{F:List Blk}{v:V}{Hc:Hp}{rs:List ResultVar}
 (hm:P.follows .mixedOrders=true) (hΓ:zdo P Γ) (hΔ:zba P Δ) (hc:zk P f) (hf:P.funcs[f]? =some fn) (hb:fn.body=some c) (hnt:fn.ntmps=nt) (hrs:fn.results.toList=rs) (hok:zar nt c=true) (hle:args.length≤nt) (hnx:nx=F.length) (hn:F.length≤Hc.next)
 (h:AXs ⟨nt,zbq keep,Γ,Δ,nx,[],zbq fz⟩ P (EndN ⟨nt,zbq keep,Γ,Δ,nx,[],zbq fz⟩ P rs v Hc) [] c (zbX 0 args) ⟨numB 0 F,nx⟩):NCall P f args F [] v Hc:=by
 subst hnx
 refine NCall.of (C:=⟨nt,zbq keep,Γ,Δ,F.length,[],zbq fz⟩) hc hf hb hnt hle rfl (fun b hb=>by cases hb) hn ?_
 refine AX.mono (zc6 (C:=⟨nt,zbq keep,Γ,Δ,F.length,[],zbq fz⟩) hm ⟨hΓ,hΔ⟩ c _ _ hok h) fun o s hk=>?_
 subst hrs
 cases o with
 |norm=>obtain⟨env',h1,h2,h3⟩:=hk;exact⟨.inl rfl,_,h1,rfl,h2,h3⟩
 |ret=>obtain⟨env',h1,h2,h3⟩:=hk;exact⟨.inr rfl,_,h1,rfl,h2,h3⟩
 |exit i=>exact hk.elim
 |panic v=>exact hk.elim
theorem NCall.walkW {nt:Nat}(keep:List Nat)(fz:List Nat)(nx:Nat)(W:List Nat){Γ:FuncId→List V→Option PR}{Δ:FuncId→List V→Hp→Option AR}{f:FuncId}{fn:Func}{c:Code}{args:List V}{F:List Blk}{v:V}{Hc:Hp}{rs:List ResultVar}
 (hm:P.follows .mixedOrders=true) (hΓ:zdo P Γ) (hΔ:zba P Δ) (hc:zk P f) (hf:P.funcs[f]? =some fn) (hb:fn.body=some c) (hnt:fn.ntmps=nt) (hrs:fn.results.toList=rs) (hok:zar nt c=true) (hle:args.length≤nt) (hnx:nx=F.length) (hW:∀ b∈W,b<F.length) (hn:F.length≤Hc.next)
 (h:AXs ⟨nt,zbq keep,Γ,Δ,nx,W,zbq fz⟩ P (EndN ⟨nt,zbq keep,Γ,Δ,nx,W,zbq fz⟩ P rs v Hc) [] c (zbX 0 args) ⟨numB 0 F,nx⟩):NCall P f args F W v Hc:=by
 subst hnx
 refine NCall.of (C:=⟨nt,zbq keep,Γ,Δ,F.length,W,zbq fz⟩) hc hf hb hnt hle rfl hW hn ?_
 refine AX.mono (zc6 (C:=⟨nt,zbq keep,Γ,Δ,F.length,W,zbq fz⟩) hm ⟨hΓ,hΔ⟩ c _ _ hok h) fun o s hk=>?_
 subst hrs
 cases o with
 |norm=>obtain⟨env',h1,h2,h3⟩:=hk;exact⟨.inl rfl,_,h1,rfl,h2,h3⟩
 |ret=>obtain⟨env',h1,h2,h3⟩:=hk;exact⟨.inr rfl,_,h1,rfl,h2,h3⟩
 |exit i=>exact hk.elim
 |panic v=>exact hk.elim
theorem HCall.fresh {f:FuncId}{args:List V}{F:List Blk}{X:List V}{n sz:Nat}(hN:NCall P f args F [] (.sl F.length 0 n sz none) ⟨(F.length,.cells X)::numB 0 F,F.length+1⟩)(hX:∀ x∈X,Pure x)
 (is:List Nat) (args':List V) (H:Hp) (hlen:is.length=F.length) (hnd:is.Nodup) (ha:LRel (Rn (fun i=>is.getD i 0) (· <F.length)) args args')
 (hF:∀(i:Nat) (x:Blk),F[i]? =some x→∃ b,is[i]? =some b∧H.get b=some x∧RnB (fun i=>is.getD i 0) (· <F.length) x x)
 (hF':∀(i:Nat) (x:Blk),F[i]? =some x→∀ π N,RnB π N x x) (hk:∀ b x,H.get b=some x→b<H.next):
 HCall P f args' H ⟨True,.sl H.next 0 n sz none,⟨(H.next,.cells X)::H.bs,H.next+1⟩,is,[]⟩:=by
 have tc:zU is H.next H.next=F.length:=by unfold zU;rw [Yd (by omega)];omega
 refine HCall.of hN is args' (.sl H.next 0 n sz none) H ⟨(H.next,.cells X)::H.bs,H.next+1⟩ hlen hnd ha (fun i x hx=>?_) ?_ (by show H.next+1+F.length=H.next+(F.length+1);omega) (fun b x' hx'=>?_) (fun b hb _=>?_)
 ·obtain⟨b,h1,h2,h3⟩:=hF i x hx
  exact⟨b,x,h1,h2,h3⟩
 ·have:=Rn.sl (π:=zU is H.next) (N:=fun b=>b∈is∨(H.next≤b∧b<H.next+1)) (b:=H.next) (off:=0) (len:=n) (sz:=sz) (kc:=none) (kc':=none) (.inr ⟨Ye _,Yat _⟩) (.inl rfl)
  rwa [tc]at this
 ·by_cases hb:b=H.next
  ·subst hb
   have hxe:x'=.cells X:=by have:(((H.next,.cells X)::H.bs:List (Nat×Blk)).lookup H.next)=some x':=hx';simp at this;exact this.symm
   subst hxe
   refine .inr ⟨.inr ⟨Ye _,Yat _⟩,.cells X,?_,.cells (zt hX)⟩
   rw [tc]
   show (((F.length,Blk.cells X)::numB 0 F).lookup F.length)=_
   simp
  ·have hg:H.get b=some x':=by
    have:(((H.next,.cells X)::H.bs:List (Nat×Blk)).lookup b)=some x':=hx'
    rw [Yq]at this
    have hne:(b==H.next)=false:=by simpa using hb
    rw [hne]at this
    exact this
   by_cases hi:b∈is
   ·obtain⟨i,hi1,hi2⟩:=Yaj.1 hi
    have hiF:i<F.length:=by omega
    obtain⟨b',k1,k2,k3⟩:=hF i F[i] (by rw [Yb])
    rw [Yb hi1,hi2]at k1
    cases k1
    rw [hg]at k2
    have hx:x'=F[i]:=Yl k2
    have htc:zU is H.next b=i:=by unfold zU;rw [Yf (hk b _ hg), ←hi2,List.Nodup.idxOf_getElem hnd]
    refine .inr ⟨.inl hi,F[i],?_,?_⟩
    ·rw [htc]
     show (((F.length,Blk.cells X)::numB 0 F).lookup i)=_
     have hne:(i==F.length)=false:=by simp;omega
     rw [Yq,hne,zdA]
     simp
    ·rw [hx];exact hF' i F[i] (by rw [Yb]) _ _
   ·exact .inl ⟨hk b _ hg,hi,hg⟩
 ·show (((H.next,.cells X)::H.bs:List (Nat×Blk)).lookup b)=H.get b
  rw [Yq]
  have hne:(b==H.next)=false:=by simp;omega
  rw [hne];rfl
theorem zbB {bs:List (Nat×Blk)}{n:Nat}(h:((keysB bs).all fun b=>decide (b<n))=true):∀ b x,(⟨bs,n⟩:Hp).get b=some x→b<n:=fun b _ hx=>by have:=Yg.1 h b (zfD hx);simpa using this
theorem HCall.none {f:FuncId}{args:List V}{F:List Blk}{v:V}(hN:NCall P f args F [] v ⟨numB 0 F,F.length⟩)(hv:Pure v)
 (is:List Nat) (args':List V) (H:Hp) (hlen:is.length=F.length) (hnd:is.Nodup) (ha:LRel (Rn (fun i=>is.getD i 0) (· <F.length)) args args')
 (hF:∀(i:Nat) (x:Blk),F[i]? =some x→∃ b,is[i]? =some b∧H.get b=some x∧RnB (fun i=>is.getD i 0) (· <F.length) x x)
 (hF':∀(i:Nat) (x:Blk),F[i]? =some x→∀ π N,RnB π N x x) (hk:∀ b x,H.get b=some x→b<H.next):
 HCall P f args' H ⟨True,v,H,is,[]⟩:=by
 refine HCall.of hN is args' v H H hlen hnd ha (fun i x hx=>?_) (.same hv) rfl (fun b x' hx'=>?_) (fun b hb _=>rfl)
 ·obtain⟨b,h1,h2,h3⟩:=hF i x hx
  exact⟨b,x,h1,h2,h3⟩
 ·by_cases hi:b∈is
  ·obtain⟨i,hi1,hi2⟩:=Yaj.1 hi
   have hiF:i<F.length:=by omega
   obtain⟨b',k1,k2,k3⟩:=hF i F[i] (by rw [Yb])
   rw [Yb hi1,hi2]at k1
   cases k1
   rw [hx']at k2
   have hx:x'=F[i]:=Yl k2
   have htc:zU is H.next b=i:=by unfold zU;rw [Yf (hk b _ hx'), ←hi2,List.Nodup.idxOf_getElem hnd]
   refine .inr ⟨.inl hi,F[i],?_,?_⟩
   ·rw [htc]
    show ((numB 0 F).lookup i)=_
    rw [zdA]
    simp
   ·rw [hx];exact hF' i F[i] (by rw [Yb]) _ _
  ·exact .inl ⟨hk b _ hx',hi,hx'⟩
noncomputable def conD(R:List V→Hp→AR→Prop):List V→Hp→Option AR:=fun args H=>
 open Classical in if h:∃ r,R args H r then some (Classical.choose h)else Option.none
theorem zaK {R:List V→Hp→AR→Prop}{args:List V}{H:Hp}{r:AR}(h:R args H r)(hu:∀ r',R args H r'→r'=r):conD R args H=some r:=by have hx:∃ r,R args H r:=⟨r,h⟩;unfold conD;rw [dif_pos hx,hu _ (YaZ hx)]
theorem zaZ {R:List V→Hp→AR→Prop}{f:FuncId}(h:∀ args H r,R args H r→HCall P f args H r):∀ args H r,conD R args H=some r→HCall P f args H r:=by
 intro args H r e;unfold conD at e;split at e
 ·rename_i hx;cases e;exact h _ _ _ (YaZ hx)
 ·cases e
end Go.Ab

namespace Go.Ab
variable {C:Cfg}{P:Program}{K:Out→St→Prop}{st:List Fr}{env:Env}{h:Hp}
def takeC:Nat→Code→Option (Code×Code)
 |0,_=>none
 |n+1,.seq x y=>match n with
  |0=>some (x,y)
  |n+1=>match takeC (n+1) y with
   |some (p,q)=>if zbu x=true then none else some (.seq x p,q)
   |none=>none
 |_+1,_=>none
theorem zkf(hm:P.follows .mixedOrders=true)(hΓ:zcP P C):∀(n:Nat) (c p q:Code) (s:St) (K1 K:Out→St→Prop),takeC n c=some (p,q)→zar C.nt c=true→AXf C P p s K1→(∀ o s,K1 o s→zgs (fun s=>AX C P q s K) K o s)→AX C P c s K
 |0,_,_,_,_,_,_,h,_,_,_=>by cases h
 |n+1,c,p,q,s,K1,K,h,hc,hx,hk1=>by
  cases c<;>try (cases h;done)
  rename_i x y;simp only [zar,Yc]at hc;cases n with
  |zero=>cases h;exact AX.seq ((zc6 hm hΓ _ s _ hc.1 hx).mono hk1)
  |succ n=>
   simp only [takeC]at h;split at h
   ·rename_i p' q' e;split at h
    ·cases h
    ·rename_i hl;cases h;unfold AXf at hx;refine AX.seq ((zc6 hm hΓ x s _ hc.1 hx).mono fun o s' hk=>?_);cases o with
     |norm=>
      have hk':if zbu x=true then AX C P p' s' K1 else AXf C P p' s' K1:=hk
      rw [Yd hl]at hk';exact zkf hm hΓ (n+1) y p' q s' K1 K e hc.2 hk' hk1
     |exit i=>exact hk1 _ _ hk
     |ret=>exact hk1 _ _ hk
     |panic v=>exact hk1 _ _ hk
   ·cases h
theorem AXa.cut {y:Code}(n:Nat){p q:Code}(hn:takeC n y=some (p,q))(hm:P.follows .mixedOrders=true)(hΓ:zdo P C.Γ)(hΔ:zba P C.Δ)(hok:zar C.nt y=true)(hx:AXs C P K (.sem q::st) p env h):AXa C P K st y env h:=
 zkf hm ⟨hΓ,hΔ⟩ n y p q ⟨env,h⟩ _ _ hn hok hx fun _ _ k=>k
theorem zfT {base:Nat}{D:Nat→Prop}{g0:G}{H0:Hp}{w0:World}{ops:Array Oper}{K:Out→St→Prop}(he:Entry C base D g0 H0 w0)(hΓ:zcP P C)(hd:∀ o∈ops.toList,∀ d,o.dst=some d→d<C.nt)
 (Q:Exit→Act→World→Prop) (js:List Nat) (rest:List Oper) (hN:∀ s g a w,Rel C base D g0 H0 w0 g s a w→K .norm s→wpOps P ops Q js a w)
 (hQ:∀ e a w,Aft C base D g0 H0 w0 (fun o s=>match o with| .norm=>False|o=>K o s) e a w→Q e a w):
 ∀(os:List Oper) (i:Nat),ops.toList.drop i=os++rest→∀(s:St) (g:G) (a:Act) (w:World),Rel C base D g0 H0 w0 g s a w→ARun C P ops os s K→wpOps P ops Q (List.range' i os.length++js) a w
 |[],i,_,s,g,a,w,r,h=>by simpa using hN s g a w r h
 |o::os,i,hi,s,g,a,w,r,h=>by
  have ho:ops[i]? =some o:=by
   have:(ops.toList.drop i)[0]? =some o:=by rw [hi];rfl
   rw [Yag]at this;rw [←YE];simpa using this
  have hos:ops.toList.drop (i+1)=os++rest:=by rw [←Ybd,hi];rfl
  have hmem:o∈ops.toList:=YR (by rw [YE];exact ho);have hdo:=hd o hmem;have hO:=r.env.ops ops o;have sem:=zcF hΓ ops o s.env s.h;rw [Ym,List.range'_succ,YbE];simp only [wpOps,ho];have dput:∀(b:Act) (vc:Value),b.defers=[]→(b.put o.dst vc).defers=[]:=fun b vc e=>by cases o.dst<;>exact e
  have go:∀(st:Bool) (v:V) (h':Hp) (f:Foot),ARun C P ops os ((s.put o.dst v).hp h') K→wok C f.W=true→StepSem P C.nt ops o s.env s.h st v h' f→o.wp P a w (wpOps P ops Q (List.range' (i+1) os.length++js)) Q:=by intro st v h' f hk hw hst;refine hst.exec g base _ w a _ Q r.post.inv hO (fun b _=>he.inD b) fun g' w' vc hv hp=>?_;exact zfT he hΓ hd Q js rest hN hQ os (i+1) hos ((s.put o.dst v).hp h') g' _ w' ⟨(r.env.mono hp.le).put hdo hv,dput _ _ r.defers,r.step he hp hw⟩ hk
  have pan:∀(v:V) (R:List Nat),K (.panic v) s→zj3 P C.nt ops o s.env s.h v R→o.wp P a w (wpOps P ops Q (List.range' (i+1) os.length++js)) Q:=by intro v R hk hst;refine hst g base _ w a _ Q r.post.inv hO (fun b _=>he.inD b) fun g' w' vc hv hp=>?_;exact hQ _ _ _ ⟨.panic v,s,g',hk,⟨vc,hv,rfl⟩,r.env.mono hp.le,r.defers,r.step he hp rfl⟩
  have skip:∀ v,VRel g v undef→ARun C P ops os ((s.put o.dst v).hp s.h) K→wpOps P ops Q (List.range' (i+1) os.length++js) (a.put o.dst undef) w:=fun v hv hk=>
   zfT he hΓ hd Q js rest hN hQ os (i+1) hos ((s.put o.dst v).hp s.h) g _ w ⟨r.env.put hdo hv,dput _ _ r.defers,r.post⟩ hk
  unfold ARun at h;split at h
  ·rename_i hg;have hw:Region.wanted o (yielded ops a.tmps)=true:=by unfold Region.wanted;rw [hg]
   rw [Yf hw];rcases zzj sem h with⟨st,v,h',f,hk,hwk,hst⟩|⟨v,R,hk,hst⟩
   ·exact .inl (go st v h' f hk hwk hst)
   ·exact .inl (pan v R hk hst)
  ·split at h;rotate_left;·exact h.elim
   rename_i gb hg;have hw:=zoE hO.rel hg;rcases zpS sem h with⟨rfl,st,v,h',f,hk,hwk,hst⟩|⟨rfl,v,R,hk,hst⟩|⟨rfl,hk⟩|⟨v,R,hk,hst⟩
   ·rw [Yf hw];exact .inl (go st v h' f hk hwk hst)
   ·rw [Yf hw];exact .inl (pan v R hk hst)
   ·rw [Yd (by rw [hw];simp)];exact skip _ (VRel.mk_tup rfl PW.nil) hk
   ·cases gb with
    |true=>rw [Yf hw];refine .inl ?_;refine(hst rfl).exec g base _ w a _ Q r.post.inv hO (fun b _=>he.inD b) fun g' w' vc hv hp=>?_;exact zfT he hΓ hd Q js rest hN hQ os (i+1) hos ((s.put o.dst (.opt true v)).hp s.h) g' _ w' ⟨(r.env.mono hp.le).put hdo (zph rfl hv),dput _ _ r.defers,r.step he hp rfl⟩ hk
    |false=>rw [Yd (by rw [hw];simp)];exact skip _ (zhP rfl) hk
def zCn(C:Cfg)(P:Program)(K:Out→St→Prop)(st:List Fr)(y:Code)(os:List Oper)(k:Nat):Out→St→Prop
 | .norm,s=>∃ s',(Sub C s s'∨(C.Wm=[]∧∃ F,Fz C.nx F s s'))∧AXr C P K (.sem y::st) ⟨os⟩ (os.drop k) s'.env s'.h
 | .exit i,s=>unst C P K st (.exit i) s
 | .ret,s=>unst C P K st .ret s
 | .panic v,s=>unst C P K st (.panic v) s
theorem AXa.split(k:Nat){id:Nat}{os:List Oper}{y:Code}(hm:P.follows .mixedOrders=true)(hΓ:zdo P C.Γ)(hΔ:zba P C.Δ)(hok:zar C.nt (.seq (.region id ⟨os⟩ false) y)=true)(hx:AXr C P (zCn C P K st y os k) [] ⟨os⟩ (os.take k) env h):
 AXa C P K st (.seq (.region id ⟨os⟩ false) y) env h:=by
 simp only [zar,Yc]at hok
 refine AX.seq fun base D g0 H0 w0 g a w he r=>wp_region ?_
 have hy:∀ o s,unst C P K (.sem y::st) o s→zgs (fun s=>AX C P y s (unst C P K st)) (unst C P K st) o s:=fun o s hk=>by
  cases o with
  |norm=>exact hk
  |exit i=>exact hk
  |ret=>exact hk
  |panic v=>exact hk
 have hq:∀ e a w,Aft C base D g0 H0 w0 (zb0 C.keep (unst C P K (.sem y::st))) e a w→Aft C base D g0 H0 w0 (zgs (fun s=>AX C P y s (unst C P K st)) (unst C P K st)) e a w:=fun e a w ⟨o,s,g,h1,h2,h3⟩=>by
  cases o with
  |norm=>exact⟨.norm,s.trim C.keep,g,hy .norm _ h1,h2,h3.env.trim C.keep,h3.defers,h3.post⟩
  |exit i=>exact⟨_,s,g,hy (.exit i) _ h1,h2,h3⟩
  |ret=>exact⟨_,s,g,hy .ret _ h1,h2,h3⟩
  |panic v=>exact⟨_,s,g,hy (.panic v) _ h1,h2,h3⟩
 have hd:=zbz hok.1.1
 have hlen:(⟨os⟩:Array Oper).size=os.length:=rfl
 rw [YcC,hlen]
 by_cases hk:k≤os.length
 ·have hr:List.range' 0 os.length=List.range' 0 (os.take k).length++List.range' k (os.drop k).length:=by
   rw [YG,Y0,YaK hk]
   have:=@List.range'_append_1 0 k (os.length - k)
   rw [Yal]at this
   rw [this];congr 1;omega
  rw [hr]
  refine zfT (K:=zb0 C.keep (zCn C P K st y os k)) he ⟨hΓ,hΔ⟩ hd _ _ (os.drop k) (fun s g a w r hk2=>?_) (fun e a w ⟨o,s,g,h1,h2,h3⟩=>?_) (os.take k) 0 (by simp) ⟨env,h⟩ g a w r hx
  ·obtain⟨s',hs,hx'⟩:=hk2
   have r1:Rel C base D g0 H0 w0 g (s.trim C.keep) a w:=⟨r.env.trim C.keep,r.defers,r.post⟩
   have hR:∃ g',Rel C base D g0 H0 w0 g' s' a w:=by
    rcases hs with hs|⟨hW,F,hs⟩
    ·exact r1.sub he hs
    ·exact r1.freeze he hW hs
   obtain⟨g',r'⟩:=hR
   exact zfd he ⟨hΓ,hΔ⟩ hd _ hq (os.drop k) k rfl s' g' a w r' hx'
  ·cases o with
   |norm=>exact h1.elim
   |exit i=>exact⟨.exit i,s,g,h1,h2,h3⟩
   |ret=>exact⟨.ret,s,g,h1,h2,h3⟩
   |panic v=>exact⟨.panic v,s,g,h1,h2,h3⟩
 ·have ht:os.take k=os:=Yj (by omega)
  have hdk:os.drop k=[]:=YbZ (by omega)
  rw [ht]at hx
  have hr:List.range' 0 os.length=List.range' 0 os.length++[]:=by simp
  rw [hr]
  refine zfT (K:=zb0 C.keep (zCn C P K st y os k)) he ⟨hΓ,hΔ⟩ hd _ _ [] (fun s g a w r hk2=>?_) (fun e a w ⟨o,s,g,h1,h2,h3⟩=>?_) os 0 (by simp) ⟨env,h⟩ g a w r hx
  ·obtain⟨s',hs,hx'⟩:=hk2
   have r1:Rel C base D g0 H0 w0 g (s.trim C.keep) a w:=⟨r.env.trim C.keep,r.defers,r.post⟩
   have hR:∃ g',Rel C base D g0 H0 w0 g' s' a w:=by
    rcases hs with hs|⟨hW,F,hs⟩
    ·exact r1.sub he hs
    ·exact r1.freeze he hW hs
   obtain⟨g',r'⟩:=hR
   rw [hdk]at hx'
   exact zfd (ops:=⟨os⟩) he ⟨hΓ,hΔ⟩ hd _ hq [] os.length (by simp) s' g' a w r' hx'
  ·cases o with
   |norm=>exact h1.elim
   |exit i=>exact⟨.exit i,s,g,h1,h2,h3⟩
   |ret=>exact⟨.ret,s,g,h1,h2,h3⟩
   |panic v=>exact⟨.panic v,s,g,h1,h2,h3⟩
theorem AXr.mono {K K':Out→St→Prop}{ops:Array Oper}:∀ {os:List Oper} {env:Env} {h:Hp},(∀ o s,K o s→K' o s)→AXr C P K [] ops os env h→AXr C P K' [] ops os env h:=by
 have key:∀(os:List Oper) (s:St) (K K':Out→St→Prop),(∀ o s,K o s→K' o s)→ARun C P ops os s K→ARun C P ops os s K':=by
  intro os;induction os with
  |nil=>intro s K K' hk h;exact hk _ _ h
  |cons o os ih=>
   intro s K K' hk h;unfold ARun at h ⊢;split at h
   ·unfold fol at h ⊢;split at h
    ·exact⟨h.1,h.2.1,ih _ _ _ hk h.2.2⟩
    ·exact⟨h.1,hk _ _ h.2⟩
    ·exact h
   ·split at h
    ·unfold folG at h ⊢;split at h
     ·exact⟨h.1,ih _ _ _ hk h.2⟩
     ·split at h
      ·rename_i hb;rw [Yf hb];exact⟨h.1,h.2.1,ih _ _ _ hk h.2.2⟩
      ·rename_i hb;rw [Yd hb];exact ih _ _ _ hk h
     ·split at h
      ·rename_i hb;rw [Yf hb];exact⟨h.1,hk _ _ h.2⟩
      ·rename_i hb;rw [Yd hb];exact ih _ _ _ hk h
     ·exact⟨h.1,ih _ _ _ hk h.2⟩
    ·exact h
 intro os env h hk hx;refine key os ⟨env,h⟩ _ _ (fun o s k=>?_) hx;cases o with
 |norm=>exact hk _ _ k
 |exit i=>exact hk _ _ k
 |ret=>exact hk _ _ k
 |panic v=>exact hk _ _ k
def skV:SR→V
 | .ok true _ v _ _=>.opt false v
 |_=>undefV
theorem zlR {ops:Array Oper}{os:List Oper}(d:Tmp)(r:SR):AXg1 C P K st ops os (some d) (some false) r env h=AXr C P K st ops os ((d,skV r)::env) h:=by
 apply propext;cases r with
 |ok st' pre v h' f=>
  cases st' with
  |true=>exact⟨fun k=>k.2,fun k=>⟨fun e=>(by cases e),k⟩⟩
  |false=>exact Iff.rfl
 |pan pre v R=>exact Iff.rfl
 |bad=>exact⟨fun k=>k.2,fun k=>⟨rfl,k⟩⟩
theorem zxI(a:V)(y:Bool)(H:Hp):zcH (.opt true (.bool false)) a (.bool y) H=.ok true True (.bool y) H ⟨[],[],0,0⟩:=by unfold zcH;cases ha:a.val<;>simp [V.val,V.cond]
attribute [go_sem] List.take_succ_cons List.drop_succ_cons
end Go.Ab
