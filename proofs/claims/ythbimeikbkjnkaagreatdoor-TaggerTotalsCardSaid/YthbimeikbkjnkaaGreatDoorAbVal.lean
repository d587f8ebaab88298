/- Abstract values: pure data, references into an abstract heap; how they stand for the model's values. -/
import Derived.Calls
import Derived.Laws.World
import Derived.Laws.Sem
set_option linter.all false
namespace Go.Ab
inductive V where
 |bool (b:Bool)
 |int (k:IntKind) (n:Int)
 |str (s:List UInt8)
 |nilS
 |sl (b off len sz:Nat) (cap:Option Nat)
 |fs (cells:List V) (len:Nat)
 |nilP
 |ptr (b off:Nat)
 |fp (cells:List V)
 |nilM
 |map (b:Nat)
 |fn (f:FuncId) (cap:List V)
 |bnd (f:FuncId) (first:List V)
 |nilF
 |ifc (t:TypeId) (v:V)
 |nilI
 |agg (cells:List V)
 |tup (vs:List V)
 |any
 |opt (b:Bool) (v:V)
 deriving Inhabited
structure Tgt where
 c:Nat
 sh:Nat
 tot:Nat
structure G where
 mu:Nat→Option Tgt
 phi:Nat→Option (Array Value)
def G.le(g g':G):Prop:=(∀ b T,g.mu b=some T→g'.mu b=some T)∧(∀ c a,g.phi c=some a→g'.phi c=some a)
theorem G.le_refl(g:G):g.le g:=⟨fun _ _ h=>h,fun _ _ h=>h⟩
theorem G.le_trans {g g' g'':G}(h:g.le g')(k:g'.le g''):g.le g'':=⟨fun b T e=>k.1 b T (h.1 b T e),fun c a e=>k.2 c a (h.2 c a e)⟩
inductive VRel(g:G):V→Value→Prop
 |bool (b):VRel g (.bool b) (.bool b)
 |int (k n):VRel g (.int k n) (.int k n)
 |str {l:List UInt8} {s:ByteArray} (h:s.data.toList=l):VRel g (.str l) (.string s)
 |nilS:VRel g .nilS (.slice none 0 0)
 |sl {b off len sz:Nat} {kc:Option Nat} {T:Tgt} {o cap:Nat} (hm:g.mu b=some T) (hl:len≤cap)
  (ho:cap≠0→o=T.sh+off∧o+cap*sz≤T.tot) (hk:∀ k,kc=some k→cap=k):
  VRel g (.sl b off len sz kc) (.slice (some ⟨T.c,o,none⟩) len cap)
 |fs {cells:List V} {len c o cap:Nat} {arr:Array Value} (vs:Nat→Value) (hp:g.phi c=some arr) (hl:len≤cap)
  (h1:∀ i:Nat,i<cells.length→arr[o+i]? =some (vs i)) (h2:∀(i:Nat) (x:V),cells[i]? =some x→VRel g x (vs i)):
  VRel g (.fs cells len) (.slice (some ⟨c,o,none⟩) len cap)
 |fs0 {a:Option Addr} {cap:Nat} (ha:a=none→cap=0):VRel g (.fs [] 0) (.slice a 0 cap)
 |nilP:VRel g .nilP (.pointer none)
 |ptr {b off:Nat} {T:Tgt} (hm:g.mu b=some T):VRel g (.ptr b off) (.pointer (some ⟨T.c,T.sh+off,none⟩))
 |fp {cells:List V} {c o:Nat} {arr:Array Value} (vs:Nat→Value) (hp:g.phi c=some arr)
  (h1:∀ i:Nat,i<cells.length→arr[o+i]? =some (vs i)) (h2:∀(i:Nat) (x:V),cells[i]? =some x→VRel g x (vs i)):
  VRel g (.fp cells) (.pointer (some ⟨c,o,none⟩))
 |nilM:VRel g .nilM (.map none)
 |map {b:Nat} {T:Tgt} (hm:g.mu b=some T):VRel g (.map b) (.map (some T.c))
 |fn {f:FuncId} {cap:List V} {arr:Array Value} (vs:Nat→Value) (hs:arr.size=cap.length)
  (h1:∀ i:Nat,i<cap.length→arr[i]? =some (vs i)) (h2:∀(i:Nat) (x:V),cap[i]? =some x→VRel g x (vs i)):
  VRel g (.fn f cap) (.func (.func f) #[] arr)
 |bnd {f:FuncId} {first:List V} {arr:Array Value} (vs:Nat→Value) (hs:arr.size=first.length)
  (h1:∀ i:Nat,i<first.length→arr[i]? =some (vs i)) (h2:∀(i:Nat) (x:V),first[i]? =some x→VRel g x (vs i)):
  VRel g (.bnd f first) (.func (.func f) arr #[])
 |nilF:VRel g .nilF .nilFunc
 |ifc {t:TypeId} {v:V} {x:Value} (h:VRel g v x):VRel g (.ifc t v) (.iface t x)
 |nilI:VRel g .nilI .nilIface
 |agg {cells:List V} {arr:Array Value} (vs:Nat→Value) (hs:arr.size=cells.length)
  (h1:∀ i:Nat,i<cells.length→arr[i]? =some (vs i)) (h2:∀(i:Nat) (x:V),cells[i]? =some x→VRel g x (vs i)):
  VRel g (.agg cells) (.agg arr)
 |tup {cells:List V} {arr:Array Value} (vs:Nat→Value) (hs:arr.size=cells.length)
  (h1:∀ i:Nat,i<cells.length→arr[i]? =some (vs i)) (h2:∀(i:Nat) (x:V),cells[i]? =some x→VRel g x (vs i)):
  VRel g (.tup cells) (.tuple arr)
 |any (v):VRel g .any v
 |opt {b:Bool} {v:V} {x:Value} (h1:b=true→VRel g v x) (h2:b=false→x=undef):VRel g (.opt b v) x
def PW(g:G)(l:List V)(get:Nat→Option Value):Prop:=∀(i:Nat) (x:V),l[i]? =some x→∃ v,get i=some v∧VRel g x v
theorem PW.skolem {g:G}{l:List V}{get:Nat→Option Value}(h:PW g l get):
 ∃ vs:Nat→Value,(∀ i:Nat,i<l.length→get i=some (vs i))∧∀(i:Nat) (x:V),l[i]? =some x→VRel g x (vs i):=by
 refine⟨fun i=>(get i).getD default,fun i hi=>?_,fun i x hx=>?_⟩
 ·obtain⟨v,hv,_⟩:=h i l[i] (by simp [hi])
  simp [hv]
 ·obtain⟨v,hv,hr⟩:=h i x hx
  simpa [hv] using hr
theorem PW.of {g:G}{l:List V}{get:Nat→Option Value}{vs:Nat→Value}(h1:∀ i:Nat,i<l.length→get i=some (vs i))
 (h2:∀(i:Nat) (x:V),l[i]? =some x→VRel g x (vs i)):PW g l get:=
 fun i x hx=>⟨vs i,h1 i (by by_cases h:i<l.length;exact h;simp [List.getElem?_eq_none (Nat.le_of_not_lt h)]at hx),h2 i x hx⟩
theorem VRel.mono {g g':G}(h:g.le g'){x:V}{v:Value}(r:VRel g x v):VRel g' x v:=by
 induction r with
 |bool b=>exact .bool b
 |int k n=>exact .int k n
 |str h=>exact .str h
 |nilS=>exact .nilS
 |sl hm hl ho hk=>exact .sl (h.1 _ _ hm) hl ho hk
 |fs vs hp hl h1 _ ih=>exact .fs vs (h.2 _ _ hp) hl h1 ih
 |fs0 ha=>exact .fs0 ha
 |nilP=>exact .nilP
 |ptr hm=>exact .ptr (h.1 _ _ hm)
 |fp vs hp h1 _ ih=>exact .fp vs (h.2 _ _ hp) h1 ih
 |nilM=>exact .nilM
 |map hm=>exact .map (h.1 _ _ hm)
 |fn vs hs h1 _ ih=>exact .fn vs hs h1 ih
 |bnd vs hs h1 _ ih=>exact .bnd vs hs h1 ih
 |nilF=>exact .nilF
 |ifc _ ih=>exact .ifc ih
 |nilI=>exact .nilI
 |agg vs hs h1 _ ih=>exact .agg vs hs h1 ih
 |tup vs hs h1 _ ih=>exact .tup vs hs h1 ih
 |any v=>exact .any v
 |opt _ h2 ih=>exact .opt ih h2
theorem PW.mono {g g':G}(h:g.le g'){l:List V}{get:Nat→Option Value}(p:PW g l get):PW g' l get:=
 fun i x hx=>let ⟨v,hv,r⟩:=p i x hx;⟨v,hv,r.mono h⟩
theorem PW.congr {g:G}{l:List V}{get get':Nat→Option Value}(p:PW g l get)(h:∀ i,i<l.length→get' i=get i):PW g l get':=
 fun i x hx=>by
  have hi:i<l.length:=by by_cases h:i<l.length;exact h;simp [List.getElem?_eq_none (Nat.le_of_not_lt h)]at hx
  obtain⟨v,hv,r⟩:=p i x hx;exact⟨v,(h i hi).trans hv,r⟩
theorem PW.nil {g:G}{get:Nat→Option Value}:PW g [] get:=fun i x h=>by simp at h
theorem PW.drop {g:G}{l:List V}{get:Nat→Option Value}(p:PW g l get)(n:Nat):PW g (l.drop n) (fun i=>get (n+i)):=
 fun i x hx=>p (n+i) x (by rw [List.getElem?_drop]at hx;exact hx)
theorem PW.take {g:G}{l:List V}{get:Nat→Option Value}(p:PW g l get)(n:Nat):PW g (l.take n) get:=
 fun i x hx=>p i x (by
  rw [List.getElem?_take]at hx;split at hx
  ·exact hx
  ·simp at hx)
theorem PW.append {g:G}{l r:List V}{get:Nat→Option Value}(p:PW g l get)(q:PW g r (fun i=>get (l.length+i))):PW g (l++r) get:=
 fun i x hx=>by
  by_cases h:i<l.length
  ·rw [List.getElem?_append_left h]at hx;exact p i x hx
  ·rw [List.getElem?_append_right (Nat.le_of_not_lt h)]at hx;obtain⟨v,hv,hr⟩:=q _ x hx;have hv':get (l.length+(i - l.length))=some v:=hv;rw [show l.length+(i - l.length)=i by omega]at hv';exact⟨v,hv',hr⟩
theorem PW.set {g:G}{l:List V}{get get':Nat→Option Value}{n:Nat}{y:V}{u:Value}(p:PW g l get)(hy:VRel g y u)
 (h1:get' n=some u) (h2:∀ i,i≠n→get' i=get i):PW g (l.set n y) get':=by
 intro i x hx
 rw [List.getElem?_set]at hx
 split at hx
 ·rename_i he
  subst he
  split at hx
  ·cases hx;exact⟨u,h1,hy⟩
  ·simp at hx
 ·rename_i he
  obtain⟨v,hv,hr⟩:=p i x hx
  exact⟨v,(h2 i (fun e=>he e.symm)).trans hv,hr⟩
theorem VRel.inv_int {g:G}{k n v}(h:VRel g (.int k n) v):v=.int k n:=by cases h;rfl
theorem VRel.inv_bool {g:G}{b v}(h:VRel g (.bool b) v):v=.bool b:=by cases h;rfl
theorem VRel.inv_str {g:G}{l v}(h:VRel g (.str l) v):∃ s:ByteArray,v=.string s∧s.data.toList=l:=by cases h;exact⟨_,rfl,by assumption⟩
theorem VRel.inv_agg {g:G}{l v}(h:VRel g (.agg l) v):∃ arr:Array Value,v=.agg arr∧arr.size=l.length∧PW g l (fun i=>arr[i]?):=by
 cases h with
 |agg vs hs h1 h2=>exact⟨_,rfl,hs,PW.of h1 h2⟩
theorem VRel.inv_tup {g:G}{l v}(h:VRel g (.tup l) v):∃ arr:Array Value,v=.tuple arr∧arr.size=l.length∧PW g l (fun i=>arr[i]?):=by
 cases h with
 |tup vs hs h1 h2=>exact⟨_,rfl,hs,PW.of h1 h2⟩
theorem VRel.inv_fn {g:G}{f l v}(h:VRel g (.fn f l) v):∃ arr:Array Value,v=.func (.func f) #[] arr∧arr.size=l.length∧PW g l (fun i=>arr[i]?):=by
 cases h with
 |fn vs hs h1 h2=>exact⟨_,rfl,hs,PW.of h1 h2⟩
theorem VRel.inv_bnd {g:G}{f l v}(h:VRel g (.bnd f l) v):∃ arr:Array Value,v=.func (.func f) arr #[]∧arr.size=l.length∧PW g l (fun i=>arr[i]?):=by
 cases h with
 |bnd vs hs h1 h2=>exact⟨_,rfl,hs,PW.of h1 h2⟩
theorem VRel.mk_bnd {g:G}{f:FuncId}{l:List V}{arr:Array Value}(hs:arr.size=l.length)(p:PW g l (fun i=>arr[i]?)):VRel g (.bnd f l) (.func (.func f) arr #[]):=by obtain⟨vs,h1,h2⟩:=p.skolem;exact .bnd vs hs h1 h2
theorem VRel.inv_fp {g:G}{l v}(h:VRel g (.fp l) v):∃ c o arr,v=.pointer (some ⟨c,o,none⟩)∧g.phi c=some arr∧PW g l (fun i=>arr[o+i]?):=by
 cases h with
 |fp vs hp h1 h2=>exact⟨_,_,_,rfl,hp,PW.of h1 h2⟩
theorem VRel.inv_ptr {g:G}{b off v}(h:VRel g (.ptr b off) v):∃ T:Tgt,g.mu b=some T∧v=.pointer (some ⟨T.c,T.sh+off,none⟩):=by
 cases h with
 |ptr hm=>exact⟨_,hm,rfl⟩
theorem VRel.inv_sl {g:G}{b off len sz kc v}(h:VRel g (.sl b off len sz kc) v):∃(T:Tgt) (o cap:Nat),g.mu b=some T∧len≤cap∧
 (cap≠0→o=T.sh+off∧o+cap*sz≤T.tot)∧(∀ k,kc=some k→cap=k)∧v=.slice (some ⟨T.c,o,none⟩) len cap:=by
 cases h with
 |sl hm hl ho hk=>exact⟨_,_,_,hm,hl,ho,hk,rfl⟩
theorem VRel.mk_agg {g:G}{l:List V}{arr:Array Value}(hs:arr.size=l.length)(p:PW g l (fun i=>arr[i]?)):VRel g (.agg l) (.agg arr):=by obtain⟨vs,h1,h2⟩:=p.skolem;exact .agg vs hs h1 h2
theorem VRel.mk_tup {g:G}{l:List V}{arr:Array Value}(hs:arr.size=l.length)(p:PW g l (fun i=>arr[i]?)):VRel g (.tup l) (.tuple arr):=by obtain⟨vs,h1,h2⟩:=p.skolem;exact .tup vs hs h1 h2
theorem VRel.mk_fn {g:G}{f:FuncId}{l:List V}{arr:Array Value}(hs:arr.size=l.length)(p:PW g l (fun i=>arr[i]?)):VRel g (.fn f l) (.func (.func f) #[] arr):=by obtain⟨vs,h1,h2⟩:=p.skolem;exact .fn vs hs h1 h2
theorem VRel.mk_fp {g:G}{l:List V}{c o:Nat}{arr:Array Value}(hp:g.phi c=some arr)(p:PW g l (fun i=>arr[o+i]?)):VRel g (.fp l) (.pointer (some ⟨c,o,none⟩)):=by obtain⟨vs,h1,h2⟩:=p.skolem;exact .fp vs hp h1 h2
theorem VRel.mk_fs {g:G}{l:List V}{len c o cap:Nat}{arr:Array Value}(hp:g.phi c=some arr)(hl:len≤cap)(p:PW g l (fun i=>arr[o+i]?)):
 VRel g (.fs l len) (.slice (some ⟨c,o,none⟩) len cap):=by
 obtain⟨vs,h1,h2⟩:=p.skolem;exact .fs vs hp hl h1 h2
theorem VRel.inv_fs {g:G}{l:List V}{len v}(h:VRel g (.fs l len) v):∃(a:Option Addr) (cap:Nat),v=.slice a len cap∧len≤cap∧
 (l=[]∧len=0∧(a=none→cap=0)∨∃ c o arr,a=some ⟨c,o,none⟩∧g.phi c=some arr∧PW g l (fun i=>arr[o+i]?)):=by
 cases h with
 |fs vs hp hl h1 h2=>exact⟨_,_,rfl,hl,.inr ⟨_,_,_,rfl,hp,PW.of h1 h2⟩⟩
 |fs0 ha=>exact⟨_,_,rfl,Nat.zero_le _,.inl ⟨rfl,rfl,ha⟩⟩
def V.cellsV:V→List V
 | .agg cs=>cs
 |v=>[v]
def V.one:V→Bool
 | .agg _| .tup _| .any| .opt .. =>false
 |_=>true
theorem VRel.oneCell {g:G}{x:V}{v:Value}(h:VRel g x v)(ho:x.one=true):v.oneCell'=true:=by
 cases h<;>first|rfl|(simp [V.one]at ho)
theorem VRel.cells {g:G}{x:V}{v:Value}(h:VRel g x v)(ho:x.one=true∨∃ l,x=.agg l):
 v.cells.size=x.cellsV.length∧PW g x.cellsV (fun i=>v.cells[i]?):=by
 rcases ho with ho|⟨l,rfl⟩
 ·have h1:x.cellsV=[x]:=by cases x<;>first|rfl|(simp [V.one]at ho)
  have h2:v.cells=#[v]:=by
   have:=h.oneCell ho;cases v<;>first|rfl|(simp [Value.oneCell']at this)
  rw [h1,h2]
  refine⟨rfl,fun i y hy=>?_⟩
  match i,hy with
  |0,hy=>simp at hy;subst hy;exact⟨v,rfl,h⟩
 ·obtain⟨arr,rfl,hs,hp⟩:=h.inv_agg
  exact⟨hs,hp⟩
def pow10V:List V:=(List.range 20).map fun i=>.int .u64 (10 ^ i:Nat)
def GL(k:Nat):Option (List V):=if k=1 then some pow10V else none
def GOK(g:G):Prop:=∀ k cs,GL k=some cs→VRel ⟨fun _=>none,g.phi⟩ (.fp cs) (.pointer (some ⟨k,0,none⟩))∧∃ arr,g.phi k=some arr∧arr.size=cs.length
theorem GOK.mono {g g':G}(hp:∀ c a,g.phi c=some a→g'.phi c=some a)(h:GOK g):GOK g':=fun k cs e=>
 ⟨VRel.mono (g:=⟨fun _=>none,g.phi⟩) (g':=⟨fun _=>none,g'.phi⟩) ⟨fun _ _ e=>e,hp⟩ (h k cs e).1,let ⟨arr,h1,h2⟩:=(h k cs e).2;⟨arr,hp _ _ h1,h2⟩⟩
theorem GOK.rel {g:G}(h:GOK g){k:Nat}{cs:List V}(e:GL k=some cs):VRel g (.fp cs) (.pointer (some ⟨k,0,none⟩)):=
 VRel.mono (g:=⟨fun _=>none,g.phi⟩) (g':=g) ⟨fun _ _ e=>(nomatch e),fun _ _ e=>e⟩ (h k cs e).1
end Go.Ab
