/- What came in, as abstract values: types read as data, one combinator a kind. -/
import Derived.Test.YtfilkkmcagndlaaGreatDoorF3b
import Derived.ProofKit
import Derived.Lib.SmallJoins
import Derived.Deep.Slices
import Derived.Deep.Strs
import Derived.Handed
import Derived.Test.YtfilkkmcagndlaaGreatDoorAbMapS
import Derived.Test.YtfilkkmcagndlaaGreatDoorAbWalk
set_option linter.all false
namespace Go.Ab
def gW(W:World):G:=⟨fun _=>none,fun c=>match W.heap[c]? with|some (.cells arr _ _)=>some arr|_=>none⟩
theorem gW_of {W:World}{c:Nat}{arr:Array Value}{t:TypeId}{fr:Nat×Nat}(h:W.heap[c]? =some (.cells arr t fr)):(gW W).phi c=some arr:=by simp only [gW,h]
theorem gW_frz {W:World}:∀ c arr,(gW W).phi c=some arr→∃ t fr,W.heap[c]? =some (.cells arr t fr):=by
 intro c arr e;simp only [gW]at e;split at e
 ·rename_i a t fr h;cases e;exact⟨t,fr,h⟩
 ·cases e
theorem zzj {W:World}{a:Addr}{v:Value}(h:W.cell? a=some v):a.spot=none∧∃ arr t fr,W.heap[a.block]? =some (.cells arr t fr)∧arr[a.off]? =some v:=by
 unfold World.cell? at h;split at h
 ·rename_i arr t fr hb;split at h
  ·cases h
  ·rename_i hs;refine⟨?_,arr,t,fr,hb,h⟩;cases e:a.spot with
   |none=>rfl
   |some x=>rw [e]at hs;simp at hs
 ·cases h
def strR:Row (List UInt8) where
 enc s:=[.str s]
 n:=1
 dflt:=[]
 len _:=rfl
 pos:=by decide
 pure a x h:=by simp only [List.mem_cons,List.not_mem_nil,or_false]at h;subst h;exact .str _
 one _:=rfl
 inj a b h:=by simpa using h
def intR(k:IntKind):Row Int where
 enc s:=[.int k s]
 n:=1
 dflt:=0
 len _:=rfl
 pos:=by decide
 pure a x h:=by simp only [List.mem_cons,List.not_mem_nil,or_false]at h;subst h;exact .int _ _
 one _:=rfl
 inj a b h:=by simpa using h
def boolR:Row Bool where
 enc s:=[.bool s]
 n:=1
 dflt:=false
 len _:=rfl
 pos:=by decide
 pure a x h:=by simp only [List.mem_cons,List.not_mem_nil,or_false]at h;subst h;exact .bool _
 one _:=rfl
 inj a b h:=by simpa using h
def slR {α:Type}(R:Row α):Row (List α) where
 enc l:=[.fs (R.cells l) l.length]
 n:=1
 dflt:=[]
 len _:=rfl
 pos:=by decide
 pure a x h:=by simp only [List.mem_cons,List.not_mem_nil,or_false]at h;subst h;exact .fs (R.pure_cells a)
 one _:=rfl
 inj a b h:=by simp only [List.cons.injEq,V.fs.injEq,and_true]at h;exact R.cells_inj h.1
def zm7 {α β:Type}(R:Row α)(S:Row β):Row (α×β) where
 enc p:=R.enc p.1++S.enc p.2
 n:=R.n+S.n
 dflt:=(R.dflt,S.dflt)
 len a:=by rw [List.length_append,R.len,S.len]
 pos:=by have:=R.pos;omega
 pure a x h:=(List.mem_append.1 h).elim (R.pure _ x) (S.pure _ x)
 one a:=by rw [List.all_append,R.one,S.one];rfl
 inj a b h:=by obtain⟨h1,h2⟩:=List.append_inj h (by rw [R.len,R.len]);exact Prod.ext (R.inj _ _ h1) (S.inj _ _ h2)
def CR(W:World)(l:List V)(cs:List Value):Prop:=cs.length=l.length∧∀(k:Nat) (y:V),l[k]? =some y→∃ v,cs[k]? =some v∧VRel (gW W) y v
theorem CR.one {W:World}{y:V}{v:Value}(h:VRel (gW W) y v):CR W [y] [v]:=⟨rfl,fun k x e=>by
 match k with
 |0=>cases e;exact⟨v,rfl,h⟩
 |k+1=>simp at e⟩
theorem CR.app {W:World}{l r:List V}{cs:List Value}{n m:Nat}(hl:l.length=n)(hr:r.length=m)(hc:cs.length=n+m)(h:CR W l ((cs.drop 0).take n))(k:CR W r ((cs.drop n).take m)):CR W (l++r) cs:=by
 refine⟨by rw [List.length_append];omega,fun i y e=>?_⟩;by_cases hi:i<l.length
 ·rw [List.getElem?_append_left hi]at e;obtain⟨v,h1,h2⟩:=h.2 i y e;rw [List.drop_zero,List.getElem?_take,if_pos (by omega)]at h1;exact⟨v,h1,h2⟩
 ·rw [List.getElem?_append_right (by omega)]at e;obtain⟨v,h1,h2⟩:=k.2 _ y e;have hlt:=(List.getElem?_eq_some_iff.1 h1).1;rw [List.length_take]at hlt;rw [List.getElem?_take,if_pos (by omega),List.getElem?_drop]at h1;rw [show n+(i - l.length)=i by omega]at h1;exact⟨v,h1,h2⟩
structure Dec(P:Program)(t:TypeId){α:Type}(R:Row α)(ok:α→Prop):Prop where
 n:P.cellsOf t=R.n
 dec:∀ {H:Type} {enc:TypeId×Value→H} {W:World} {base:Nat} {held:Bool} {fuel:Nat} {cs:List Value} {x:DataW H×List MemPlace},
  DataW.trod enc P W base (fun _=>true) held fuel t cs=some x→(∀ n∈x.1.weights P t,n≤reachBytes)→∃ a,ok a∧CR W (R.enc a) cs
variable {P:Program}
theorem Dec.str {t:TypeId}(ht:P.underlying t=some .string)(hc:P.cellsOf t=1):Dec P t strR (fun s=>s.length≤reachBytes):=⟨hc,fun h hw=>by obtain⟨s,e,ex,_⟩:=DataW.trod_string ht h;subst e;rw [ex]at hw;refine⟨s.data.toList,hw _ ?_,CR.one (.str rfl)⟩;simp [DataW.weights]⟩
theorem Dec.int {t:TypeId}{k:IntKind}(ht:P.underlying t=some (.int k))(hc:P.cellsOf t=1):Dec P t (intR k) (fun n=>(Lit.int k n).wf=true):=⟨hc,fun h _=>by obtain⟨n,e,ex,hw⟩:=DataW.trod_int ht h;subst e;exact⟨n,hw,CR.one (.int _ _)⟩⟩
theorem Dec.bool {t:TypeId}(ht:P.underlying t=some .bool)(hc:P.cellsOf t=1):Dec P t boolR (fun _=>True):=⟨hc,fun h _=>by obtain⟨n,e,ex⟩:=DataW.trod_bool ht h;subst e;exact⟨n,trivial,CR.one (.bool _)⟩⟩
theorem weightsAll_mem {H:Type}{e:TypeId}:∀ {l:List (DataW H)} {d:DataW H},d∈l→∀ n∈d.weights P e,n∈DataW.weightsAll P e l
 |[],_,h,_,_=>by cases h
 |x::l,d,h,n,hn=>by
  rw [DataW.weightsAll];rcases List.mem_cons.1 h with rfl|h
  ·exact List.mem_append_left _ hn
  ·exact List.mem_append_right _ (weightsAll_mem h n hn)
theorem Dec.slice {t e:TypeId}{α:Type}{R:Row α}{ok:α→Prop}(d:Dec P e R ok)(ht:P.underlying t=some (.slice e))(hc:P.cellsOf t=1)(hb:0<P.bytesOf e):
 Dec P t (slR R) (fun l=>l.length≤reachBytes∧∀ a∈l,ok a):=⟨hc,fun {H enc W base held fuel cs x} h hw=>by
 rcases Go.Deep.open_slice ht h with⟨hv,hx⟩|⟨a,len,cap,m,k,D,Pl,hv,_,hl,_,hm,hx,hel⟩
 ·subst hv
  exact⟨[],⟨by simp,fun a ha=>by cases ha⟩,CR.one (.fs0 fun _=>rfl)⟩
 subst hv
 have hm':m=cap:=by rw [hm];rfl
 subst hm'
 clear hm
 rw [hx]at hw
 simp only [DataW.weights,ht]at hw
 have hlen:len≤reachBytes:=by have:=hw ((((List.range len).map D).length+((List.range (m - len)).map fun j=>D (len+j)).length)*P.bytesOf e) (List.mem_cons_self ..);simp only [List.length_map,List.length_range]at this;have h2:len*1≤(len+(m - len))*P.bytesOf e:=Nat.mul_le_mul (by omega) hb;omega
 have hD:∀ i,i<len→∀ n∈(D i).weights P e,n≤reachBytes:=fun i hi n hn=>
  hw n (List.mem_cons_of_mem _ (List.mem_append_left _ (weightsAll_mem (List.mem_map.2 ⟨i,List.mem_range.2 hi,rfl⟩) n hn)))
 by_cases h0:len=0
 ·subst h0
  exact⟨[],⟨by simp,fun a ha=>by cases ha⟩,CR.one (.fs0 fun h=>by cases h)⟩
 rw [d.n]at hel
 have hell:∀ i,i<len→∃(x:α) (cs':List Value),ok x∧W.cells? base (a.add (i*R.n)) R.n=some cs'∧CR W (R.enc x) cs':=fun i hi=>by obtain⟨cs',h1,h2⟩:=hel i (by omega);obtain⟨x,h3,h4⟩:=d.dec h2 (hD i hi);exact⟨x,cs',h3,h1,h4⟩
 obtain⟨x0,cs0,_,hc0,hr0⟩:=hell 0 (by omega)
 have hn0:=R.pos
 have hc00:=(World.cells?_some hc0).2.2 0 hn0
 have ha0:(a.add (0*R.n)).add 0=a:=by rw [Nat.zero_mul];rfl
 rw [ha0]at hc00
 have hsome:∃ v,cs0[0]? =some v:=by have:=hr0.1;rw [R.len]at this;exact⟨cs0[0],List.getElem?_eq_getElem (by omega)⟩
 obtain⟨v0,hv0⟩:=hsome
 rw [hv0]at hc00
 obtain⟨hsp,arr,ty,fr,hb',_⟩:=zzj hc00
 obtain⟨b,off,sp⟩:=a
 simp only at hsp hb'
 subst hsp
 have hat:∀ o i,((⟨b,o,none⟩:Addr).add i)=⟨b,o+i,none⟩:=fun o i=>by
  unfold Addr.add;split
  ·rename_i h;rw [h];rfl
  ·rfl
 have hget:∀ i,i<len→∃ x:α,ok x∧∀(j:Nat) (y:V),(R.enc x)[j]? =some y→∃ v,arr[off+(i*R.n+j)]? =some v∧VRel (gW W) y v:=fun i hi=>by
  obtain⟨x,cs',h1,h2,h3⟩:=hell i hi;refine⟨x,h1,fun j y hy=>?_⟩;obtain⟨v,h4,h5⟩:=h3.2 j y hy;have hj:j<R.n:=by have:=(List.getElem?_eq_some_iff.1 hy).1;rwa [R.len]at this
  have:=(World.cells?_some h2).2.2 j hj;rw [hat,hat]at this;unfold World.cell? at this;rw [hb']at this;refine⟨v,?_,h5⟩;rw [←Nat.add_assoc];have h6:arr[off+i*R.n+j]? =cs'[j]? :=this;rw [h6,h4]
 let f:Nat→α:=fun i=>if h:i<len then Classical.choose (hget i h)else R.dflt
 have hf:∀ i,i<len→ok (f i)∧∀(j:Nat) (y:V),(R.enc (f i))[j]? =some y→∃ v,arr[off+(i*R.n+j)]? =some v∧VRel (gW W) y v:=fun i hi=>by have e:f i=Classical.choose (hget i hi):=dif_pos hi;rw [e];exact Classical.choose_spec (hget i hi)
 have hll:((List.range len).map f).length=len:=by simp
 refine⟨(List.range len).map f,⟨by rw [hll];exact hlen,fun x hx=>?_⟩,CR.one ?_⟩
 ·obtain⟨i,hi,rfl⟩:=List.mem_map.1 hx
  exact(hf i (List.mem_range.1 hi)).1
 rw [hll]
 refine VRel.mk_fs (gW_of hb') hl fun i x hx=>?_
 have hi:i<len*R.n:=by have:=(List.getElem?_eq_some_iff.1 hx).1;rwa [R.len_cells,hll]at this
 have hq:i / R.n<len:=(Nat.div_lt_iff_lt_mul hn0).2 hi
 have hr:=Nat.mod_lt i hn0
 have he:i=i / R.n*R.n+i % R.n:=by have:=Nat.div_add_mod i R.n;rw [Nat.mul_comm]at this;omega
 have hcell:(R.enc (f (i / R.n)))[i % R.n]? =some x:=by
  have h1:=R.at_ ((List.range len).map f) (i / R.n) (by rw [hll];exact hq);have h2:R.nth ((List.range len).map f) (i / R.n)=f (i / R.n):=by unfold Row.nth;rw [List.getD_eq_getElem?_getD,List.getElem?_map,List.getElem?_range hq];rfl
  rw [h2]at h1;have h3:((R.cells ((List.range len).map f)).drop (i / R.n*R.n))[i % R.n]? =some x:=by rw [List.getElem?_drop, ←he];exact hx
  rwa [h1,List.getElem?_append_left (by rw [R.len];exact hr)]at h3
 obtain⟨v,h1,h2⟩:=(hf _ hq).2 _ x hcell
 exact⟨v,by rw [←he]at h1;exact h1,h2⟩⟩
theorem weightsEach_cons {H:Type}(t:TypeId)(ts:List TypeId)(d:DataW H)(r:List (DataW H)):DataW.weightsEach P (t::ts) (d::r)=d.weights P t++DataW.weightsEach P ts r:=by rw [DataW.weightsEach]
theorem Dec.two {t:TypeId}{f0 f1:Field}{α β:Type}{R:Row α}{S:Row β}{ok:α→Prop}{ok':β→Prop}(ht:P.underlying t=some (.struct #[f0,f1]))(d0:Dec P f0.type R ok)(d1:Dec P f1.type S ok')
 (o0:f0.offset=0) (o1:f1.offset=R.n) (hc:P.cellsOf t=R.n+S.n):Dec P t (zm7 R S) (fun a=>ok a.1∧ok' a.2):=⟨hc,fun {H enc W base held fuel cs x} h hw=>by
 obtain⟨y0,y1,m,hx,hl,h0,h1⟩:=Go.ChangeShapes.trod_struct2 ht h
 rw [hx]at hw
 simp only [DataW.weights,ht,List.map_cons,List.map_nil,weightsEach_cons]at hw
 obtain⟨a,k0,r0⟩:=d0.dec h0 fun n hn=>hw n (List.mem_append_left _ hn)
 obtain⟨b,k1,r1⟩:=d1.dec h1 fun n hn=>hw n (List.mem_append_right _ (List.mem_append_left _ hn))
 rw [o0,d0.n]at r0
 rw [o1,d1.n]at r1
 exact⟨(a,b),⟨k0,k1⟩,CR.app (R.len a) (S.len b) (by omega) r0 r1⟩⟩
theorem zdr {α:Type}(l:List α)(n m:Nat)(h:n≤m):(((l.drop 0).take m).drop 0).take n=(l.drop 0).take n:=by rw [List.drop_zero,List.drop_zero,List.take_take,Nat.min_eq_left h]
theorem Dec.three {t:TypeId}{f0 f1 f2:Field}{α β γ:Type}{R:Row α}{S:Row β}{T:Row γ}{ok:α→Prop}{ok':β→Prop}{ok'':γ→Prop}
 (ht:P.underlying t=some (.struct #[f0,f1,f2])) (d0:Dec P f0.type R ok) (d1:Dec P f1.type S ok') (d2:Dec P f2.type T ok'') (o0:f0.offset=0) (o1:f1.offset=R.n) (o2:f2.offset=R.n+S.n) (hc:P.cellsOf t=R.n+S.n+T.n):Dec P t (zm7 (zm7 R S) T) (fun a=>(ok a.1.1∧ok' a.1.2)∧ok'' a.2):=⟨hc,fun {H enc W base held fuel cs x} h hw=>by
 obtain⟨y0,y1,y2,m,hx,hl,h0,h1,h2⟩:=Go.Deep.trod_struct3 ht h
 rw [hx]at hw
 simp only [DataW.weights,ht,List.map_cons,List.map_nil,weightsEach_cons]at hw
 obtain⟨a,k0,r0⟩:=d0.dec h0 fun n hn=>hw n (List.mem_append_left _ hn)
 obtain⟨b,k1,r1⟩:=d1.dec h1 fun n hn=>hw n (List.mem_append_right _ (List.mem_append_left _ hn))
 obtain⟨c,k2,r2⟩:=d2.dec h2 fun n hn=>hw n (List.mem_append_right _ (List.mem_append_right _ (List.mem_append_left _ hn)))
 rw [o0,d0.n]at r0
 rw [o1,d1.n]at r1
 rw [o2,d2.n]at r2
 refine⟨((a,b),c),⟨⟨k0,k1⟩,k2⟩,CR.app (n:=R.n+S.n) (m:=T.n) (by show (R.enc a++S.enc b).length=_;rw [List.length_append,R.len,S.len]) (T.len c) (by omega) ?_ r2⟩
 refine CR.app (R.len a) (S.len b) (by rw [List.drop_zero,List.length_take];omega) ?_ ?_
 ·rw [zdr _ _ _ (by omega)];exact r0
 ·rw [List.drop_zero,List.drop_take,Nat.add_sub_cancel_left,List.take_take,Nat.min_self];exact r1⟩
theorem Dec.four {t:TypeId}{f0 f1 f2 f3:Field}{α β γ δ:Type}{R:Row α}{S:Row β}{T:Row γ}{U:Row δ}{ok:α→Prop}{ok':β→Prop}{ok'':γ→Prop}{ok3:δ→Prop}
 (ht:P.underlying t=some (.struct #[f0,f1,f2,f3])) (d0:Dec P f0.type R ok) (d1:Dec P f1.type S ok') (d2:Dec P f2.type T ok'') (d3:Dec P f3.type U ok3) (o0:f0.offset=0) (o1:f1.offset=R.n) (o2:f2.offset=R.n+S.n) (o3:f3.offset=R.n+S.n+T.n) (hc:P.cellsOf t=R.n+S.n+T.n+U.n):
 Dec P t (zm7 (zm7 (zm7 R S) T) U) (fun a=>((ok a.1.1.1∧ok' a.1.1.2)∧ok'' a.1.2)∧ok3 a.2):=⟨hc,fun {H enc W base held fuel cs x} h hw=>by
 obtain⟨y0,y1,y2,y3,m,hx,hl,h0,h1,h2,h3⟩:=Go.Joins.trod_struct4 ht h
 rw [hx]at hw
 simp only [DataW.weights,ht,List.map_cons,List.map_nil,weightsEach_cons]at hw
 obtain⟨a,k0,r0⟩:=d0.dec h0 fun n hn=>hw n (List.mem_append_left _ hn)
 obtain⟨b,k1,r1⟩:=d1.dec h1 fun n hn=>hw n (List.mem_append_right _ (List.mem_append_left _ hn))
 obtain⟨c,k2,r2⟩:=d2.dec h2 fun n hn=>hw n (List.mem_append_right _ (List.mem_append_right _ (List.mem_append_left _ hn)))
 obtain⟨d,k3,r3⟩:=d3.dec h3 fun n hn=>hw n (List.mem_append_right _ (List.mem_append_right _ (List.mem_append_right _ (List.mem_append_left _ hn))))
 rw [o0,d0.n]at r0
 rw [o1,d1.n]at r1
 rw [o2,d2.n]at r2
 rw [o3,d3.n]at r3
 refine⟨(((a,b),c),d),⟨⟨⟨k0,k1⟩,k2⟩,k3⟩,CR.app (n:=R.n+S.n+T.n) (m:=U.n) (by show (R.enc a++S.enc b++T.enc c).length=_;rw [List.length_append,List.length_append,R.len,S.len,T.len]) (U.len d) (by omega) ?_ r3⟩
 refine CR.app (n:=R.n+S.n) (m:=T.n) (by show (R.enc a++S.enc b).length=_;rw [List.length_append,R.len,S.len]) (T.len c) (by rw [List.drop_zero,List.length_take];omega) ?_ ?_
 ·rw [zdr _ _ _ (by omega)]
  refine CR.app (R.len a) (S.len b) (by rw [List.drop_zero,List.length_take];omega) ?_ ?_
  ·rw [zdr _ _ _ (by omega)];exact r0
  ·rw [List.drop_zero,List.drop_take,Nat.add_sub_cancel_left,List.take_take,Nat.min_self];exact r1
 ·rw [List.drop_zero,List.drop_take,Nat.add_sub_cancel_left,List.take_take,Nat.min_self];exact r2⟩
theorem Dec.cast {t:TypeId}{α β:Type}{R:Row α}{S:Row β}{ok:α→Prop}{ok':β→Prop}(d:Dec P t R ok)(f:α→β)(hn:R.n=S.n)(h:∀ a,S.enc (f a)=R.enc a)(hok:∀ a,ok a→ok' (f a)):Dec P t S ok':=
 ⟨d.n.trans hn,fun e hw=>by obtain⟨a,h1,h2⟩:=d.dec e hw;exact⟨f a,hok a h1,by rw [h];exact h2⟩⟩
theorem Dec.arg1 {t:TypeId}{α:Type}{R:Row α}{ok:α→Prop}(d:Dec P t R ok){H:Type}{enc:TypeId×Value→H}{W:World}{base:Nat}{held:Bool}{v:Value}{x:DataW H}{p:List MemPlace}(h:DataW.Trod enc P W base (fun _=>true) held t v x p)
 (hv:v.cells=#[v]) (hw:∀ n∈x.weights P t,n≤reachBytes):∃ a,ok a∧∀ y,R.enc a=[y]→VRel (gW W) y v:=by
 obtain⟨fuel,h⟩:=h
 obtain⟨a,h1,h2⟩:=d.dec h hw
 refine⟨a,h1,fun y hy=>?_⟩
 rw [hy,hv]at h2
 obtain⟨v',e,r⟩:=h2.2 0 y rfl
 cases e
 exact r
theorem Dec.argS {t:TypeId}{α:Type}{R:Row α}{ok:α→Prop}(d:Dec P t R ok){H:Type}{enc:TypeId×Value→H}{W:World}{base:Nat}{held:Bool}{v:Value}{x:DataW H}{p:List MemPlace}(h:DataW.Trod enc P W base (fun _=>true) held t v x p)
 (hv:∃ cs,v=.agg cs) (hw:∀ n∈x.weights P t,n≤reachBytes):∃ a,ok a∧VRel (gW W) (.agg (R.enc a)) v:=by
 obtain⟨fuel,h⟩:=h
 obtain⟨a,h1,h2⟩:=d.dec h hw
 obtain⟨cs,rfl⟩:=hv
 exact⟨a,h1,VRel.mk_agg (by have:=h2.1;simp only [Value.cells,Array.length_toList]at this;exact this) fun i x hx=>by obtain⟨v,e,r⟩:=h2.2 i x hx;exact⟨v,by simpa [Value.cells] using e,r⟩⟩
end Go.Ab

namespace Go.Proofs
open Go.Ab Go.Cnt
theorem zjk {P:Program}(t:TypeId)(a b c:V)(bs:List (Nat×Blk))(m:Nat):zai P t 3 [(0,a),(1,b),(2,c)] ⟨bs,m⟩=bsL (zcE P t) [a,b,c] ⟨bs,m⟩ (zdo P t 3 [(0,a),(1,b),(2,c)] ⟨bs,m⟩):=by
 unfold bsL;split
 ·rename_i s z hb;split
  ·rename_i hc;obtain⟨rfl,h1,h2,h3⟩:=hc;simp only [List.all_cons,List.all_nil,Bool.and_true,Bool.and_eq_true]at h3;obtain⟨a1,a2⟩:=V.one_cells h3.1;obtain⟨b1,b2⟩:=V.one_cells h3.2.1;obtain⟨c1,c2⟩:=V.one_cells h3.2.2;unfold zcE at hb;split at hb
   ·rename_i e he;split at hb
    ·rename_i s' z' k1 k2;cases hb;match hz:(cv z).cellsV,h2 with
     |[y],_=>
      have zz:zbs P e 3=[y,y,y]:=by simp [zbs,k2,hz]
      simp [zai,he,k1,k2,zd7,a1,a2,b1,b2,c1,c2,zz,hz,h1,putCells,Hp.new]
    ·cases hb
   ·cases hb
  ·rfl
 ·rfl
attribute [go_sem] zjk
def rowR:Row (List Str) where
 enc s:=[.fs (strs s) s.length]
 n:=1
 dflt:=[]
 len _:=rfl
 pos:=by decide
 pure a x h:=by simp only [List.mem_cons,List.not_mem_nil,or_false]at h;subst h;exact .fs (zV a)
 one _:=rfl
 inj a b h:=by simp only [List.cons.injEq,V.fs.injEq,and_true]at h;exact zco h.1
def zbM(m:List (List Str)):List V:=rowR.cells m
def nthR(m:List (List Str))(i:Nat):List Str:=rowR.nth m i
theorem zq6(m:List (List Str))(i:Nat)(h:i<m.length):(zbM m).drop i=.fs (strs (nthR m i)) (nthR m i).length::zbM (m.drop (i+1)):=by have:=rowR.at_ m i h;rwa [show i*rowR.n=i from Nat.mul_one i]at this
theorem zU(m:List (List Str)):∀ x∈zbM m,Pure x:=rowR.pure_cells m
theorem zpg(m:List (List Str)):(∀ x∈zbM m,Pure x)↔True:=rowR.pure_cellsP m
theorem za7(m:List (List Str)):(zbM m).length=m.length:=(rowR.len_cells m).trans (Nat.mul_one _)
theorem zty {π:Nat→Nat}{N:Nat→Prop}(m:List (List Str)):LRel (Rn π N) (zbM m) (zbM m)↔True:=rowR.lrel_cells m
theorem zid {a b:List (List Str)}(h:zbM a=zbM b):a=b:=rowR.cells_inj h
def matR:Row (List (List Str)) where
 enc m:=[.fs (zbM m) m.length]
 n:=1
 dflt:=[]
 len _:=rfl
 pos:=by decide
 pure a x h:=by simp only [List.mem_cons,List.not_mem_nil,or_false]at h;subst h;exact .fs (zU a)
 one _:=rfl
 inj a b h:=by simp only [List.cons.injEq,V.fs.injEq,and_true]at h;exact zid h.1
def matsC(l:List (List (List Str))):List V:=matR.cells l
theorem zx3(m:List (List (List Str))):(matsC m).length=m.length:=(matR.len_cells m).trans (Nat.mul_one _)
attribute [go_sem] zpg za7 zty zx3 List.getElem?_cons_zero List.getElem?_cons_succ
structure Mdl where
 tags:List Str
 words:List Str
 next:List (List Str)
 emit:List (List Str)
def mdlV(m:Mdl):V:=.agg [.fs (strs m.tags) m.tags.length,.fs (strs m.words) m.words.length,.fs (zbM m.next) m.next.length,.fs (zbM m.emit) m.emit.length]
theorem zhy(m:Mdl):Pure (mdlV m):=.agg fun x h=>by
 simp only [List.mem_cons,List.not_mem_nil,or_false]at h;rcases h with rfl|rfl|rfl|rfl
 ·exact .fs (zV _)
 ·exact .fs (zV _)
 ·exact .fs (zU _)
 ·exact .fs (zU _)
theorem mdlV_inj {a b:Mdl}(h:mdlV a=mdlV b):a=b:=by obtain⟨a1,a2,a3,a4⟩:=a;obtain⟨b1,b2,b3,b4⟩:=b;simp only [mdlV,V.agg.injEq,List.cons.injEq,V.fs.injEq,and_true]at h;obtain⟨⟨h1,_⟩,⟨h2,_⟩,⟨h3,_⟩,⟨h4,_⟩⟩:=h;rw [zco h1,zco h2,zid h3,zid h4]
end Go.Proofs

namespace Go.Proofs
open Go.Ab Go.Pl
def resP:V→List UInt8×Int
 | .tup [.str s,.int .i64 e]=>(s,e)
 |_=>([],0)
theorem zdd(s:List UInt8)(e:Int):resP (.tup [.str s,.int .i64 e])=(s,e):=rfl
theorem zhn(e:Int):resP (errV e)=([],e):=rfl
theorem ratT_len {neg:Bool}{n d:Nat}(hn:(dec n).length≤400)(hd:(dec d).length≤400):(ratT neg n d).length≤1000:=by unfold ratT;simp only [List.length_append];split<;>split<;>simp only [List.length_cons,List.length_nil]<;>omega
theorem zxE(neg:Bool)(n d:Nat):(resP (mkV neg n d)).1.length≤1000:=by
 unfold mkV;split
 ·rw [zhn];simp
 ·rename_i h;have h':¬(400<(dec (n / Nat.gcd n d)).length∨400<(dec (d / Nat.gcd n d)).length):=by simpa [zd5] using h
  exact ratT_len (by omega) (by omega)
theorem zcX(a b:List UInt8):(resP (zM a b)).1.length≤1000:=by
 unfold zM;split
 ·exact zxE ..
 ·rw [zhn];simp
theorem zii(a b:List UInt8):(resP (zK a b)).1.length≤1000:=by
 unfold zK;split
 ·exact zxE ..
 ·rw [zhn];simp
def pR(all k:List UInt8)(n:Nat):List UInt8×Int:=
 if (resP (zM (dec n) k)).2=0∧all≠[48]then resP (zaH (resP (zM (dec n) k)).1 all)else resP (zM (dec n) k)
def outR(all k:List UInt8)(ns:List Nat):Nat→Int×List (List UInt8)
 |0=>(0,[])
 |j+1=>if (outR all k ns j).1≠0 then outR all k ns j else if (pR all k (ns.getD j 0)).2≠0 then((pR all k (ns.getD j 0)).2,[])else(0,(outR all k ns j).2++[(pR all k (ns.getD j 0)).1])
def zeB(k:List UInt8)(len sum:Nat)(ns:List Nat):Int×List (List UInt8):=
 if (resP (zK k (dec len))).2≠0 then((resP (zK k (dec len))).2,[])
 else if (resP (zM (resP (zK k (dec len))).1 (dec sum))).2≠0 then((resP (zM (resP (zK k (dec len))).1 (dec sum))).2,[])
 else outR (resP (zM (resP (zK k (dec len))).1 (dec sum))).1 k ns ns.length
def zcG(k:List UInt8)(len sum:Nat)(ns:List Nat):V:=.tup [.fs (strs (zeB k len sum ns).2) (zeB k len sum ns).2.length,.int .i64 (zeB k len sum ns).1]
theorem zhv {all k:List UInt8}{ns:List Nat}{j:Nat}(h:(outR all k ns j).1≠0):∀ i,j≤i→outR all k ns i=outR all k ns j
 |0,hi=>by obtain rfl:j=0:=by omega
           rfl
 |i+1,hi=>by
  rcases Nat.eq_or_lt_of_le hi with rfl|hlt
  ·rfl
  ·have ih:=zhv h i (by omega);rw [outR,ih,if_pos h]
theorem zrb {all k:List UInt8}{ns:List Nat}:∀ j,(outR all k ns j).1=0→(outR all k ns j).2.length=j
 |0,_=>rfl
 |j+1,h=>by
  unfold outR at h ⊢;split
  ·rename_i h1;rw [if_pos h1]at h;exact absurd h h1
  ·rename_i h1;rw [if_neg h1]at h;split
   ·rename_i h2;rw [if_pos h2]at h;exact absurd h h2
   ·have:=zrb (all:=all) (k:=k) (ns:=ns) j (by simpa using h1);simp [this]
end Go.Proofs
