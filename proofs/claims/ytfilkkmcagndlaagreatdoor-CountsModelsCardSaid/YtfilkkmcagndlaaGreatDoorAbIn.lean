/- What came in, as abstract values: types read as data, one combinator a kind. -/
import Derived.Test.YtfilkkmcagndlaaGreatDoorF3b
import Derived.ProofKit
import Derived.Lib.SmallJoins
import Derived.Deep.Slices
import Derived.Deep.Strs
import Derived.Handed
import Derived.Test.YtfilkkmcagndlaaGreatDoorAbMapS
import Derived.Test.YtfilkkmcagndlaaGreatDoorAbCut
import Derived.Test.YtfilkkmcagndlaaGreatDoorM2
set_option linter.all false
namespace Go.Ab
def gW(W:World):G:=⟨fun _=>none,fun c=>match W.heap[c]? with|some (.cells arr _ _)=>some arr|_=>none⟩
theorem gW_of {W:World}{c:Nat}{arr:Array Value}{t:TypeId}{fr:Nat×Nat}(h:W.heap[c]? =some (.cells arr t fr)):(gW W).phi c=some arr:=by simp only [gW,h]
theorem gW_frz {W:World}:∀ c arr,(gW W).phi c=some arr→∃ t fr,W.heap[c]? =some (.cells arr t fr):=by
 intro c arr e;simp only [gW]at e;split at e
 ·rename_i a t fr h;cases e;exact⟨t,fr,h⟩
 ·cases e
theorem zyX {W:World}{a:Addr}{v:Value}(h:W.cell? a=some v):a.spot=none∧∃ arr t fr,W.heap[a.block]? =some (.cells arr t fr)∧arr[a.off]? =some v:=by
 unfold World.cell? at h;split at h
 ·rename_i arr t fr hb;split at h
  ·cases h
  ·rename_i hs;refine⟨?_,arr,t,fr,hb,h⟩;cases e:a.spot with
   |none=>rfl
   |some x=>rw [e]at hs;simp at hs
 ·cases h
def strR:Row (List UInt8) where
 enc s:=[.str s]
 n:=1
 dflt:=[]
 len _:=rfl
 pos:=by decide
 pure a x h:=by simp only [List.mem_cons,List.not_mem_nil,or_false]at h;subst h;exact .str _
 one _:=rfl
 inj a b h:=by simpa using h
def intR(k:IntKind):Row Int where
 enc s:=[.int k s]
 n:=1
 dflt:=0
 len _:=rfl
 pos:=by decide
 pure a x h:=by simp only [List.mem_cons,List.not_mem_nil,or_false]at h;subst h;exact .int _ _
 one _:=rfl
 inj a b h:=by simpa using h
def boolR:Row Bool where
 enc s:=[.bool s]
 n:=1
 dflt:=false
 len _:=rfl
 pos:=by decide
 pure a x h:=by simp only [List.mem_cons,List.not_mem_nil,or_false]at h;subst h;exact .bool _
 one _:=rfl
 inj a b h:=by simpa using h
def slR {α:Type}(R:Row α):Row (List α) where
 enc l:=[.fs (R.cells l) l.length]
 n:=1
 dflt:=[]
 len _:=rfl
 pos:=by decide
 pure a x h:=by simp only [List.mem_cons,List.not_mem_nil,or_false]at h;subst h;exact .fs (R.pure_cells a)
 one _:=rfl
 inj a b h:=by simp only [List.cons.injEq,V.fs.injEq,and_true]at h;exact R.cells_inj h.1
def zwL {α β:Type}(R:Row α)(S:Row β):Row (α×β) where
 enc p:=R.enc p.1++S.enc p.2
 n:=R.n+S.n
 dflt:=(R.dflt,S.dflt)
 len a:=by rw [List.length_append,R.len,S.len]
 pos:=by have:=R.pos;omega
 pure a x h:=(List.mem_append.1 h).elim (R.pure _ x) (S.pure _ x)
 one a:=by rw [List.all_append,R.one,S.one];rfl
 inj a b h:=by obtain⟨h1,h2⟩:=List.append_inj h (by rw [R.len,R.len]);exact Prod.ext (R.inj _ _ h1) (S.inj _ _ h2)
def CR(W:World)(l:List V)(cs:List Value):Prop:=cs.length=l.length∧∀(k:Nat) (y:V),l[k]? =some y→∃ v,cs[k]? =some v∧VRel (gW W) y v
theorem CR.one {W:World}{y:V}{v:Value}(h:VRel (gW W) y v):CR W [y] [v]:=⟨rfl,fun k x e=>by
 match k with
 |0=>cases e;exact⟨v,rfl,h⟩
 |k+1=>simp at e⟩
theorem CR.app {W:World}{l r:List V}{cs:List Value}{n m:Nat}(hl:l.length=n)(hr:r.length=m)(hc:cs.length=n+m)(h:CR W l ((cs.drop 0).take n))(k:CR W r ((cs.drop n).take m)):CR W (l++r) cs:=by
 refine⟨by rw [List.length_append];omega,fun i y e=>?_⟩;by_cases hi:i<l.length
 ·rw [List.getElem?_append_left hi]at e;obtain⟨v,h1,h2⟩:=h.2 i y e;rw [List.drop_zero,List.getElem?_take,if_pos (by omega)]at h1;exact⟨v,h1,h2⟩
 ·rw [List.getElem?_append_right (by omega)]at e;obtain⟨v,h1,h2⟩:=k.2 _ y e;have hlt:=(List.getElem?_eq_some_iff.1 h1).1;rw [List.length_take]at hlt;rw [List.getElem?_take,if_pos (by omega),List.getElem?_drop]at h1;rw [show n+(i - l.length)=i by omega]at h1;exact⟨v,h1,h2⟩
structure Dec(P:Program)(t:TypeId){α:Type}(R:Row α)(ok:α→Prop):Prop where
 n:P.cellsOf t=R.n
 dec:∀ {H:Type} {enc:TypeId×Value→H} {W:World} {base:Nat} {held:Bool} {fuel:Nat} {cs:List Value} {x:DataW H×List MemPlace},
  DataW.trod enc P W base (fun _=>true) held fuel t cs=some x→(∀ n∈x.1.weights P t,n≤reachBytes)→∃ a,ok a∧CR W (R.enc a) cs
variable {P:Program}
theorem Dec.str {t:TypeId}(ht:P.underlying t=some .string)(hc:P.cellsOf t=1):Dec P t strR (fun s=>s.length≤reachBytes):=⟨hc,fun h hw=>by obtain⟨s,e,ex,_⟩:=DataW.trod_string ht h;subst e;rw [ex]at hw;refine⟨s.data.toList,hw _ ?_,CR.one (.str rfl)⟩;simp [DataW.weights]⟩
theorem Dec.int {t:TypeId}{k:IntKind}(ht:P.underlying t=some (.int k))(hc:P.cellsOf t=1):Dec P t (intR k) (fun n=>(Lit.int k n).wf=true):=⟨hc,fun h _=>by obtain⟨n,e,ex,hw⟩:=DataW.trod_int ht h;subst e;exact⟨n,hw,CR.one (.int _ _)⟩⟩
theorem Dec.bool {t:TypeId}(ht:P.underlying t=some .bool)(hc:P.cellsOf t=1):Dec P t boolR (fun _=>True):=⟨hc,fun h _=>by obtain⟨n,e,ex⟩:=DataW.trod_bool ht h;subst e;exact⟨n,trivial,CR.one (.bool _)⟩⟩
theorem weightsAll_mem {H:Type}{e:TypeId}:∀ {l:List (DataW H)} {d:DataW H},d∈l→∀ n∈d.weights P e,n∈DataW.weightsAll P e l
 |[],_,h,_,_=>by cases h
 |x::l,d,h,n,hn=>by
  rw [DataW.weightsAll];rcases List.mem_cons.1 h with rfl|h
  ·exact List.mem_append_left _ hn
  ·exact List.mem_append_right _ (weightsAll_mem h n hn)
theorem Dec.slice {t e:TypeId}{α:Type}{R:Row α}{ok:α→Prop}(d:Dec P e R ok)(ht:P.underlying t=some (.slice e))(hc:P.cellsOf t=1)(hb:0<P.bytesOf e):
 Dec P t (slR R) (fun l=>l.length≤reachBytes∧∀ a∈l,ok a):=⟨hc,fun {H enc W base held fuel cs x} h hw=>by
 rcases Go.Deep.open_slice ht h with⟨hv,hx⟩|⟨a,len,cap,m,k,D,Pl,hv,_,hl,_,hm,hx,hel⟩
 ·subst hv
  exact⟨[],⟨by simp,fun a ha=>by cases ha⟩,CR.one (.fs0 fun _=>rfl)⟩
 subst hv
 have hm':m=cap:=by rw [hm];rfl
 subst hm'
 clear hm
 rw [hx]at hw
 simp only [DataW.weights,ht]at hw
 have hlen:len≤reachBytes:=by have:=hw ((((List.range len).map D).length+((List.range (m - len)).map fun j=>D (len+j)).length)*P.bytesOf e) (List.mem_cons_self ..);simp only [List.length_map,List.length_range]at this;have h2:len*1≤(len+(m - len))*P.bytesOf e:=Nat.mul_le_mul (by omega) hb;omega
 have hD:∀ i,i<len→∀ n∈(D i).weights P e,n≤reachBytes:=fun i hi n hn=>
  hw n (List.mem_cons_of_mem _ (List.mem_append_left _ (weightsAll_mem (List.mem_map.2 ⟨i,List.mem_range.2 hi,rfl⟩) n hn)))
 by_cases h0:len=0
 ·subst h0
  exact⟨[],⟨by simp,fun a ha=>by cases ha⟩,CR.one (.fs0 fun h=>by cases h)⟩
 rw [d.n]at hel
 have hell:∀ i,i<len→∃(x:α) (cs':List Value),ok x∧W.cells? base (a.add (i*R.n)) R.n=some cs'∧CR W (R.enc x) cs':=fun i hi=>by obtain⟨cs',h1,h2⟩:=hel i (by omega);obtain⟨x,h3,h4⟩:=d.dec h2 (hD i hi);exact⟨x,cs',h3,h1,h4⟩
 obtain⟨x0,cs0,_,hc0,hr0⟩:=hell 0 (by omega)
 have hn0:=R.pos
 have hc00:=(World.cells?_some hc0).2.2 0 hn0
 have ha0:(a.add (0*R.n)).add 0=a:=by rw [Nat.zero_mul];rfl
 rw [ha0]at hc00
 have hsome:∃ v,cs0[0]? =some v:=by have:=hr0.1;rw [R.len]at this;exact⟨cs0[0],List.getElem?_eq_getElem (by omega)⟩
 obtain⟨v0,hv0⟩:=hsome
 rw [hv0]at hc00
 obtain⟨hsp,arr,ty,fr,hb',_⟩:=zyX hc00
 obtain⟨b,off,sp⟩:=a
 simp only at hsp hb'
 subst hsp
 have hat:∀ o i,((⟨b,o,none⟩:Addr).add i)=⟨b,o+i,none⟩:=fun o i=>by
  unfold Addr.add;split
  ·rename_i h;rw [h];rfl
  ·rfl
 have hget:∀ i,i<len→∃ x:α,ok x∧∀(j:Nat) (y:V),(R.enc x)[j]? =some y→∃ v,arr[off+(i*R.n+j)]? =some v∧VRel (gW W) y v:=fun i hi=>by
  obtain⟨x,cs',h1,h2,h3⟩:=hell i hi;refine⟨x,h1,fun j y hy=>?_⟩;obtain⟨v,h4,h5⟩:=h3.2 j y hy;have hj:j<R.n:=by have:=(List.getElem?_eq_some_iff.1 hy).1;rwa [R.len]at this
  have:=(World.cells?_some h2).2.2 j hj;rw [hat,hat]at this;unfold World.cell? at this;rw [hb']at this;refine⟨v,?_,h5⟩;rw [←Nat.add_assoc];have h6:arr[off+i*R.n+j]? =cs'[j]? :=this;rw [h6,h4]
 let f:Nat→α:=fun i=>if h:i<len then Classical.choose (hget i h)else R.dflt
 have hf:∀ i,i<len→ok (f i)∧∀(j:Nat) (y:V),(R.enc (f i))[j]? =some y→∃ v,arr[off+(i*R.n+j)]? =some v∧VRel (gW W) y v:=fun i hi=>by have e:f i=Classical.choose (hget i hi):=dif_pos hi;rw [e];exact Classical.choose_spec (hget i hi)
 have hll:((List.range len).map f).length=len:=by simp
 refine⟨(List.range len).map f,⟨by rw [hll];exact hlen,fun x hx=>?_⟩,CR.one ?_⟩
 ·obtain⟨i,hi,rfl⟩:=List.mem_map.1 hx
  exact(hf i (List.mem_range.1 hi)).1
 rw [hll]
 refine VRel.mk_fs (gW_of hb') hl fun i x hx=>?_
 have hi:i<len*R.n:=by have:=(List.getElem?_eq_some_iff.1 hx).1;rwa [R.len_cells,hll]at this
 have hq:i / R.n<len:=(Nat.div_lt_iff_lt_mul hn0).2 hi
 have hr:=Nat.mod_lt i hn0
 have he:i=i / R.n*R.n+i % R.n:=by have:=Nat.div_add_mod i R.n;rw [Nat.mul_comm]at this;omega
 have hcell:(R.enc (f (i / R.n)))[i % R.n]? =some x:=by
  have h1:=R.at_ ((List.range len).map f) (i / R.n) (by rw [hll];exact hq);have h2:R.nth ((List.range len).map f) (i / R.n)=f (i / R.n):=by unfold Row.nth;rw [List.getD_eq_getElem?_getD,List.getElem?_map,List.getElem?_range hq];rfl
  rw [h2]at h1;have h3:((R.cells ((List.range len).map f)).drop (i / R.n*R.n))[i % R.n]? =some x:=by rw [List.getElem?_drop, ←he];exact hx
  rwa [h1,List.getElem?_append_left (by rw [R.len];exact hr)]at h3
 obtain⟨v,h1,h2⟩:=(hf _ hq).2 _ x hcell
 exact⟨v,by rw [←he]at h1;exact h1,h2⟩⟩
theorem weightsEach_cons {H:Type}(t:TypeId)(ts:List TypeId)(d:DataW H)(r:List (DataW H)):DataW.weightsEach P (t::ts) (d::r)=d.weights P t++DataW.weightsEach P ts r:=by rw [DataW.weightsEach]
theorem Dec.two {t:TypeId}{f0 f1:Field}{α β:Type}{R:Row α}{S:Row β}{ok:α→Prop}{ok':β→Prop}(ht:P.underlying t=some (.struct #[f0,f1]))(d0:Dec P f0.type R ok)(d1:Dec P f1.type S ok')
 (o0:f0.offset=0) (o1:f1.offset=R.n) (hc:P.cellsOf t=R.n+S.n):Dec P t (zwL R S) (fun a=>ok a.1∧ok' a.2):=⟨hc,fun {H enc W base held fuel cs x} h hw=>by
 obtain⟨y0,y1,m,hx,hl,h0,h1⟩:=Go.ChangeShapes.trod_struct2 ht h
 rw [hx]at hw
 simp only [DataW.weights,ht,List.map_cons,List.map_nil,weightsEach_cons]at hw
 obtain⟨a,k0,r0⟩:=d0.dec h0 fun n hn=>hw n (List.mem_append_left _ hn)
 obtain⟨b,k1,r1⟩:=d1.dec h1 fun n hn=>hw n (List.mem_append_right _ (List.mem_append_left _ hn))
 rw [o0,d0.n]at r0
 rw [o1,d1.n]at r1
 exact⟨(a,b),⟨k0,k1⟩,CR.app (R.len a) (S.len b) (by omega) r0 r1⟩⟩
theorem ziP {α:Type}(l:List α)(n m:Nat)(h:n≤m):(((l.drop 0).take m).drop 0).take n=(l.drop 0).take n:=by rw [List.drop_zero,List.drop_zero,List.take_take,Nat.min_eq_left h]
theorem Dec.three {t:TypeId}{f0 f1 f2:Field}{α β γ:Type}{R:Row α}{S:Row β}{T:Row γ}{ok:α→Prop}{ok':β→Prop}{ok'':γ→Prop}
 (ht:P.underlying t=some (.struct #[f0,f1,f2])) (d0:Dec P f0.type R ok) (d1:Dec P f1.type S ok') (d2:Dec P f2.type T ok'') (o0:f0.offset=0) (o1:f1.offset=R.n) (o2:f2.offset=R.n+S.n) (hc:P.cellsOf t=R.n+S.n+T.n):Dec P t (zwL (zwL R S) T) (fun a=>(ok a.1.1∧ok' a.1.2)∧ok'' a.2):=⟨hc,fun {H enc W base held fuel cs x} h hw=>by
 obtain⟨y0,y1,y2,m,hx,hl,h0,h1,h2⟩:=Go.Deep.trod_struct3 ht h
 rw [hx]at hw
 simp only [DataW.weights,ht,List.map_cons,List.map_nil,weightsEach_cons]at hw
 obtain⟨a,k0,r0⟩:=d0.dec h0 fun n hn=>hw n (List.mem_append_left _ hn)
 obtain⟨b,k1,r1⟩:=d1.dec h1 fun n hn=>hw n (List.mem_append_right _ (List.mem_append_left _ hn))
 obtain⟨c,k2,r2⟩:=d2.dec h2 fun n hn=>hw n (List.mem_append_right _ (List.mem_append_right _ (List.mem_append_left _ hn)))
 rw [o0,d0.n]at r0
 rw [o1,d1.n]at r1
 rw [o2,d2.n]at r2
 refine⟨((a,b),c),⟨⟨k0,k1⟩,k2⟩,CR.app (n:=R.n+S.n) (m:=T.n) (by show (R.enc a++S.enc b).length=_;rw [List.length_append,R.len,S.len]) (T.len c) (by omega) ?_ r2⟩
 refine CR.app (R.len a) (S.len b) (by rw [List.drop_zero,List.length_take];omega) ?_ ?_
 ·rw [ziP _ _ _ (by omega)];exact r0
 ·rw [List.drop_zero,List.drop_take,Nat.add_sub_cancel_left,List.take_take,Nat.min_self];exact r1⟩
theorem Dec.cast {t:TypeId}{α β:Type}{R:Row α}{S:Row β}{ok:α→Prop}{ok':β→Prop}(d:Dec P t R ok)(f:α→β)(hn:R.n=S.n)(h:∀ a,S.enc (f a)=R.enc a)(hok:∀ a,ok a→ok' (f a)):Dec P t S ok':=
 ⟨d.n.trans hn,fun e hw=>by obtain⟨a,h1,h2⟩:=d.dec e hw;exact⟨f a,hok a h1,by rw [h];exact h2⟩⟩
theorem Dec.arg1 {t:TypeId}{α:Type}{R:Row α}{ok:α→Prop}(d:Dec P t R ok){H:Type}{enc:TypeId×Value→H}{W:World}{base:Nat}{held:Bool}{v:Value}{x:DataW H}{p:List MemPlace}(h:DataW.Trod enc P W base (fun _=>true) held t v x p)
 (hv:v.cells=#[v]) (hw:∀ n∈x.weights P t,n≤reachBytes):∃ a,ok a∧∀ y,R.enc a=[y]→VRel (gW W) y v:=by
 obtain⟨fuel,h⟩:=h
 obtain⟨a,h1,h2⟩:=d.dec h hw
 refine⟨a,h1,fun y hy=>?_⟩
 rw [hy,hv]at h2
 obtain⟨v',e,r⟩:=h2.2 0 y rfl
 cases e
 exact r
theorem Dec.argS {t:TypeId}{α:Type}{R:Row α}{ok:α→Prop}(d:Dec P t R ok){H:Type}{enc:TypeId×Value→H}{W:World}{base:Nat}{held:Bool}{v:Value}{x:DataW H}{p:List MemPlace}(h:DataW.Trod enc P W base (fun _=>true) held t v x p)
 (hv:∃ cs,v=.agg cs) (hw:∀ n∈x.weights P t,n≤reachBytes):∃ a,ok a∧VRel (gW W) (.agg (R.enc a)) v:=by
 obtain⟨fuel,h⟩:=h
 obtain⟨a,h1,h2⟩:=d.dec h hw
 obtain⟨cs,rfl⟩:=hv
 exact⟨a,h1,VRel.mk_agg (by have:=h2.1;simp only [Value.cells,Array.length_toList]at this;exact this) fun i x hx=>by obtain⟨v,e,r⟩:=h2.2 i x hx;exact⟨v,by simpa [Value.cells] using e,r⟩⟩
end Go.Ab

namespace Go.Proofs
open Go.Ab Go.Cnt
theorem ziS {P:Program}(t:TypeId)(a b c:V)(bs:List (Nat×Blk))(m:Nat):zY P t 3 [(0,a),(1,b),(2,c)] ⟨bs,m⟩=bsL (zcl P t) [a,b,c] ⟨bs,m⟩ (zc7 P t 3 [(0,a),(1,b),(2,c)] ⟨bs,m⟩):=by
 unfold bsL;split
 ·rename_i s z hb;split
  ·rename_i hc;obtain⟨rfl,h1,h2,h3⟩:=hc;simp only [List.all_cons,List.all_nil,Bool.and_true,Bool.and_eq_true]at h3;obtain⟨a1,a2⟩:=V.one_cells h3.1;obtain⟨b1,b2⟩:=V.one_cells h3.2.1;obtain⟨c1,c2⟩:=V.one_cells h3.2.2;unfold zcl at hb;split at hb
   ·rename_i e he;split at hb
    ·rename_i s' z' k1 k2;cases hb;match hz:(cv z).cellsV,h2 with
     |[y],_=>
      have zz:zbe P e 3=[y,y,y]:=by simp [zbe,k2,hz]
      simp [zY,he,k1,k2,zdQ,a1,a2,b1,b2,c1,c2,zz,hz,h1,putCells,Hp.new]
    ·cases hb
   ·cases hb
  ·rfl
 ·rfl
attribute [go_sem] ziS
def rowR:Row (List Str) where
 enc s:=[.fs (strs s) s.length]
 n:=1
 dflt:=[]
 len _:=rfl
 pos:=by decide
 pure a x h:=by simp only [List.mem_cons,List.not_mem_nil,or_false]at h;subst h;exact .fs (zT a)
 one _:=rfl
 inj a b h:=by simp only [List.cons.injEq,V.fs.injEq,and_true]at h;exact zbY h.1
def za8(m:List (List Str)):List V:=rowR.cells m
def nthR(m:List (List Str))(i:Nat):List Str:=rowR.nth m i
theorem zqI(m:List (List Str))(i:Nat)(h:i<m.length):(za8 m).drop i=.fs (strs (nthR m i)) (nthR m i).length::za8 (m.drop (i+1)):=by have:=rowR.at_ m i h;rwa [show i*rowR.n=i from Nat.mul_one i]at this
theorem zaa(m:List (List Str)):∀ x∈za8 m,Pure x:=rowR.pure_cells m
theorem zhS(m:List (List Str)):(∀ x∈za8 m,Pure x)↔True:=rowR.pure_cellsP m
theorem zbB(m:List (List Str)):(za8 m).length=m.length:=(rowR.len_cells m).trans (Nat.mul_one _)
theorem ztc {π:Nat→Nat}{N:Nat→Prop}(m:List (List Str)):LRel (Rn π N) (za8 m) (za8 m)↔True:=rowR.lrel_cells m
theorem zfv {a b:List (List Str)}(h:za8 a=za8 b):a=b:=rowR.cells_inj h
def matR:Row (List (List Str)) where
 enc m:=[.fs (za8 m) m.length]
 n:=1
 dflt:=[]
 len _:=rfl
 pos:=by decide
 pure a x h:=by simp only [List.mem_cons,List.not_mem_nil,or_false]at h;subst h;exact .fs (zaa a)
 one _:=rfl
 inj a b h:=by simp only [List.cons.injEq,V.fs.injEq,and_true]at h;exact zfv h.1
def zi0(l:List (List (List Str))):List V:=matR.cells l
def nthM(l:List (List (List Str)))(i:Nat):List (List Str):=matR.nth l i
theorem matsC_at(m:List (List (List Str)))(i:Nat)(h:i<m.length):(zi0 m).drop i=.fs (za8 (nthM m i)) (nthM m i).length::zi0 (m.drop (i+1)):=by have:=matR.at_ m i h;rwa [show i*matR.n=i from Nat.mul_one i]at this
theorem zxI(m:List (List (List Str))):(zi0 m).length=m.length:=(matR.len_cells m).trans (Nat.mul_one _)
theorem ztd {π:Nat→Nat}{N:Nat→Prop}(m:List (List (List Str))):LRel (Rn π N) (zi0 m) (zi0 m)↔True:=matR.lrel_cells m
attribute [go_sem] zhS zbB ztc zxI ztd List.getElem?_cons_zero List.getElem?_cons_succ
structure Mdl where
 tags:List Str
 words:List Str
 next:List (List Str)
 emit:List (List Str)
def mdlV(m:Mdl):V:=.agg [.fs (strs m.tags) m.tags.length,.fs (strs m.words) m.words.length,.fs (za8 m.next) m.next.length,.fs (za8 m.emit) m.emit.length]
theorem zlj(m:Mdl):Pure (mdlV m):=.agg fun x h=>by
 simp only [List.mem_cons,List.not_mem_nil,or_false]at h;rcases h with rfl|rfl|rfl|rfl
 ·exact .fs (zT _)
 ·exact .fs (zT _)
 ·exact .fs (zaa _)
 ·exact .fs (zaa _)
theorem mdlV_inj {a b:Mdl}(h:mdlV a=mdlV b):a=b:=by obtain⟨a1,a2,a3,a4⟩:=a;obtain⟨b1,b2,b3,b4⟩:=b;simp only [mdlV,V.agg.injEq,List.cons.injEq,V.fs.injEq,and_true]at h;obtain⟨⟨h1,_⟩,⟨h2,_⟩,⟨h3,_⟩,⟨h4,_⟩⟩:=h;rw [zbY h1,zbY h2,zfv h3,zfv h4]
end Go.Proofs

namespace Go.Proofs
open Go.Ab Go.Pl
def resP:V→List UInt8×Int
 | .tup [.str s,.int .i64 e]=>(s,e)
 |_=>([],0)
theorem zeO(s:List UInt8)(e:Int):resP (.tup [.str s,.int .i64 e])=(s,e):=rfl
theorem zg4(e:Int):resP (errV e)=([],e):=rfl
theorem ratT_len {neg:Bool}{n d:Nat}(hn:(dec n).length≤400)(hd:(dec d).length≤400):(ratT neg n d).length≤1000:=by unfold ratT;simp only [List.length_append];split<;>split<;>simp only [List.length_cons,List.length_nil]<;>omega
theorem zxk(neg:Bool)(n d:Nat):(resP (mkV neg n d)).1.length≤1000:=by
 unfold mkV;split
 ·rw [zg4];simp
 ·rename_i h;have h':¬(400<(dec (n / Nat.gcd n d)).length∨400<(dec (d / Nat.gcd n d)).length):=by simpa [zdO] using h
  exact ratT_len (by omega) (by omega)
theorem zdG(a b:List UInt8):(resP (zG a b)).1.length≤1000:=by
 unfold zG;split
 ·exact zxk ..
 ·rw [zg4];simp
theorem zoO(a b:List UInt8):(resP (zK a b)).1.length≤1000:=by
 unfold zK;split
 ·exact zxk ..
 ·rw [zg4];simp
def pR(all k:List UInt8)(n:Nat):List UInt8×Int:=
 if (resP (zG (dec n) k)).2=0∧all≠[48]then resP (zaW (resP (zG (dec n) k)).1 all)else resP (zG (dec n) k)
def outR(all k:List UInt8)(ns:List Nat):Nat→Int×List (List UInt8)
 |0=>(0,[])
 |j+1=>if (outR all k ns j).1≠0 then outR all k ns j else if (pR all k (ns.getD j 0)).2≠0 then((pR all k (ns.getD j 0)).2,[])else(0,(outR all k ns j).2++[(pR all k (ns.getD j 0)).1])
def zcL(k:List UInt8)(len sum:Nat)(ns:List Nat):Int×List (List UInt8):=
 if (resP (zK k (dec len))).2≠0 then((resP (zK k (dec len))).2,[])
 else if (resP (zG (resP (zK k (dec len))).1 (dec sum))).2≠0 then((resP (zG (resP (zK k (dec len))).1 (dec sum))).2,[])
 else outR (resP (zG (resP (zK k (dec len))).1 (dec sum))).1 k ns ns.length
def ze4(k:List UInt8)(len sum:Nat)(ns:List Nat):V:=.tup [.fs (strs (zcL k len sum ns).2) (zcL k len sum ns).2.length,.int .i64 (zcL k len sum ns).1]
theorem zkZ {all k:List UInt8}{ns:List Nat}{j:Nat}(h:(outR all k ns j).1≠0):∀ i,j≤i→outR all k ns i=outR all k ns j
 |0,hi=>by obtain rfl:j=0:=by omega
           rfl
 |i+1,hi=>by
  rcases Nat.eq_or_lt_of_le hi with rfl|hlt
  ·rfl
  ·have ih:=zkZ h i (by omega);rw [outR,ih,if_pos h]
theorem zkY {all k:List UInt8}{ns:List Nat}:∀ j,(outR all k ns j).1=0→(outR all k ns j).2.length=j
 |0,_=>rfl
 |j+1,h=>by
  unfold outR at h ⊢;split
  ·rename_i h1;rw [if_pos h1]at h;exact absurd h h1
  ·rename_i h1;rw [if_neg h1]at h;split
   ·rename_i h2;rw [if_pos h2]at h;exact absurd h h2
   ·have:=zkY (all:=all) (k:=k) (ns:=ns) j (by simpa using h1);simp [this]
end Go.Proofs

namespace Go.Proofs
open Go.Ab Go.Pl Go.Cnt
def ixU(T:List Str)(b:Str):Nat→Nat
 |0=>T.length
 |j+1=>if T.getD j []=b then j else ixU T b j
theorem ixU_le(T:List Str)(b:Str):∀ j,j≤T.length→ixU T b j≤T.length
 |0,_=>Nat.le_refl _
 |j+1,h=>by
  unfold ixU;split
  ·omega
  ·exact ixU_le T b j (by omega)
def zmb(a:Str)(T:List Str)(v:List Nat)(e:Ent):List Nat:=
 if e.1.1=a then v.set (ixU T e.1.2 T.length) (v.getD (ixU T e.1.2 T.length) 0+e.2.toNat)else v
def vecU(a:Str)(T:List Str)(l:List Ent):Nat→List Nat
 |0=>List.replicate (T.length+1) 0
 |i+1=>zmb a T (vecU a T l i) (nthE l i)
def sumU(a:Str)(l:List Ent):Nat→Nat
 |0=>0
 |i+1=>if (nthE l i).1.1=a then sumU a l i+(nthE l i).2.toNat else sumU a l i
def zdd(l:List Ent):Prop:=∀ e∈l,0≤e.2∧e.2≤1000000
set_option maxRecDepth 100000 in
theorem zss {l:List Ent}(h:zdd l)(i:Nat):(nthE l i).2.toNat≤1000000:=by
 by_cases hi:i<l.length
 ·have:=h _ (zfB hi);omega
 ·rw [nthE,za5 _ _ _ (by omega)];decide
theorem zqA {a:Str}{l:List Ent}{M:Nat}(h:∀ i,(nthE l i).2.toNat≤M):∀ i,sumU a l i≤i*M
 |0=>Nat.zero_le _
 |i+1=>by have:=zqA (a:=a) h i;have:=h i;rw [Nat.succ_mul];generalize i*M=P at*;unfold sumU;split<;>omega
theorem zoo {a:Str}{l:List Ent}(h:zdd l)(i:Nat):sumU a l i≤i*1000000:=zqA (zss h) i
theorem zdx(a:Str)(T:List Str)(l:List Ent):∀ i,(vecU a T l i).length=T.length+1
 |0=>by simp [vecU]
 |i+1=>by have:=zdx a T l i;unfold vecU zmb;split<;>simp [this]
theorem zuP(a b:List UInt8)(la:a.length≤1000000000)(lb:b.length≤1000000000):zzn [.str a,.str b]=some (.ret (.tup [.str (resP (zG a b)).1,.int .i64 (resP (zG a b)).2])):=by have h:zzn [.str a,.str b]=some (.ret (zG a b)):=zn (pat:=fun p:List UInt8×List UInt8=>[V.str p.1,.str p.2]) (fun x y h=>by simp at h;exact Prod.ext h.1 h.2) (a,b) ⟨la,lb⟩;obtain⟨s,e,hse⟩:=ze3 a b;rw [hse,zeO, ←hse];exact h
end Go.Proofs

namespace Go.Proofs
open Go.Ab Go.Cnt
theorem allS_t {p:Str→Bool}{l:List Str}(h:∀ i,i<l.length→p (l.getD i [])=true):l.all p=true:=List.all_eq_true.2 fun x hx=>by obtain⟨i,hi,rfl⟩:=List.mem_iff_getElem.1 hx;have:=h i hi;rwa [List.getD_eq_getElem?_getD,List.getElem?_eq_getElem hi]at this
theorem zlB {l:List Str}{i:Nat}(hi:i<l.length):l.getD i []∈l:=by rw [List.getD_eq_getElem?_getD,List.getElem?_eq_getElem hi];exact List.getElem_mem hi
theorem allS_f {p:Str→Bool}{l:List Str}{i:Nat}(hi:i<l.length)(h:p (l.getD i [])=false):l.all p=false:=by
 cases e:l.all p with
 |false=>rfl
 |true=>rw [List.all_eq_true.1 e _ (zlB hi)]at h;cases h
end Go.Proofs

namespace Go.Proofs
open Go.Ab Go.Cnt
noncomputable def incS(l:List Str):Bool:=@decide (∀ i,i+1<l.length→cmpS (l.getD i []) (l.getD (i+1) [])<0) (Classical.propDecidable _)
open Classical in
theorem incS_t {l:List Str}(h:∀ i,i+1<l.length→cmpS (l.getD i []) (l.getD (i+1) [])<0):incS l=true:=by unfold incS;exact decide_eq_true h
open Classical in
theorem incS_f {l:List Str}{i:Nat}(hi:i+1<l.length)(h:¬cmpS (l.getD i []) (l.getD (i+1) [])<0):incS l=false:=by unfold incS;exact decide_eq_false fun k=>h (k i hi)
set_option maxHeartbeats 4000000 in
theorem incrS_ok(l:List Str)(hl:l.length≤1000000):PCall Tryz.prog 26 [.fs (strs l) l.length,.fn 27 []] (.ret (.bool (incS l))):=by
 refine PCall.walk (rs:=[.tmp 4]) [0,1,4,5,9,23] [] mixed (zf zhj zh) (zg) call26 Tryz.func26 rfl Tryz.ntmps26 rfl (by kernel_rfl) (by simp) (by simp [push_cast]) ?_;simp only [go_sem];refine AXs.loop mixed (zf zhj zh) (zg) (fun i:Nat=>[(0,.fs (strs l) l.length),(1,.fn 27 []),(5,.int .i64 i)]) (fun _=>⟨[],0⟩) (fun i=>1≤i∧(i≤1∨i≤l.length)∧∀ j,j+1<i→cmpS (l.getD j []) (l.getD (j+1) [])<0) (fun i=>l.length+1 - i) 1 (by kernel_rfl)
  ⟨Nat.le_refl _,.inl (Nat.le_refl _),fun j hj=>by omega⟩ (Sub.of0 [] rfl rfl ?_ ?_) ?_
 ·simp only [go_sem]
 ·simp only [go_sem]
 rintro i ⟨h1,h2,h3⟩;simp only [go_sem];refine AXc.introP (fun h4=>?_) (fun h4=>?_)
 ·simp (disch:=first|assumption|(push_cast<;>omega)|omega) only [go_sem]
  (repeat refine sdC ?_);refine AXc.introP (fun h5=>?_) (fun h5=>?_)
  ·simp only [go_sem];exact(incS_f (i:=i - 1) (by omega) (by rw [show i - 1+1=i by omega];omega)).symm
  ·simp (disch:=first|assumption|(push_cast<;>omega)|omega) only [go_sem];refine zk (i+1) ⟨by omega,by omega,fun j hj=>?_⟩ (by omega) (Sub.of0 [] rfl rfl ?_ ?_)
   ·by_cases hji:j+1<i
    ·exact h3 j hji
    ·have:j=i - 1:=by omega
     subst this;rw [show i - 1+1=i by omega];omega
   ·simp only [go_sem];simp
   ·simp only [go_sem]
 ·simp only [go_sem];refine AXa.go mixed (zf zhj zh) (zg) (by kernel_rfl) ?_;simp only [go_sem];exact(incS_t fun j hj=>h3 j (by omega)).symm
noncomputable def cIncrS:List V→Option PR:=zD (fun l:List Str=>[.fs (strs l) l.length,.fn 27 []]) (fun l=>l.length≤1000000) fun l=>.ret (.bool (incS l))
@[go_sem] theorem cIncrS_eq(l:List Str)(hl:l.length≤1000000):cIncrS [.fs (strs l) l.length,.fn 27 []]=some (.ret (.bool (incS l))):=
 zn (pat:=fun l:List Str=>[.fs (strs l) l.length,.fn 27 []]) (fun x y h=>by simp at h;exact zbY h.1) l hl
theorem zzZ:∀ args r,cIncrS args=some r→PCall Tryz.prog 26 args r:=zo incrS_ok
end Go.Proofs
