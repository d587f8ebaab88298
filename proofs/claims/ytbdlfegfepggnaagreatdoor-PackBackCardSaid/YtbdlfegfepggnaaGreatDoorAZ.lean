/- Short names. -/
import Derived.KernelRfl
import Derived.Attr
import Derived.Calls
import Derived.Laws.World
import Derived.Laws.Sem
import Derived.Below
import Derived.Laws.Append
import Derived.Laws.AppendOwn
set_option linter.all false
set_option maxHeartbeats 16000000
set_option maxRecDepth 100000
noncomputable section
namespace Go
abbrev ZL:=List UInt8
abbrev ZN:=List Nat
theorem ZE{p:Prop}(h:p:=by intro b hb hw;exact absurd hb (by match b with|0=>simp at hw|1=>simp at hw|b+2=>simp)):p:=h
theorem ZD{p:Prop}(h:p:=by intro b hb hw;exact absurd hb (by match b with|0=>simp at hw|b+1=>simp)):p:=h
theorem ZT{α:Type}{a:Option α}{T U:α}(h:a=some T)(k:a=some U):U=T:=by rw[h]at k;exact(Option.some.inj k).symm
theorem Zg{p:Prop}(h:p:=by simp only[go_sem]):p:=h
theorem Zo{p:Prop}(h:p:=by omega):p:=h
theorem Zk{p:Prop}(h:p:=by kernel_rfl):p:=h
theorem Zs{p:Prop}(h:p:=by simp):p:=h
theorem Zd{p:Prop}(h:p:=by decide):p:=h
theorem Zp{p:Prop}(h:p:=by first|assumption|(push_cast<;>omega)|(with_unfolding_all exact id rfl)|omega):p:=h
def Ya:=@List.getD_eq_getElem?_getD
def Yb:=@List.getElem?_eq_getElem
def Yc:=@Nat.le_refl
def Yd:=@decide_eq_false
def Ye:=@if_neg
def Yf:=@decide_eq_true
def Yg:=@List.length_append
def Yh:=@Option.some.inj
def Yi:=@if_pos
def Yj:=@Bool.and_eq_true
def Yk:=@Nat.zero_le
def Yl:=@List.all_eq_true
def Ym:=@List.take_length
def Yn:=@decide_eq_true_eq
def Yo:=@List.getElem?_eq_none
def Yp:=@List.take_of_length_le
def Yq:=@Int.toNat_natCast
def Yr:=@Array.getElem?_eq_none
def Ys:=@List.getElem?_eq_some_iff
def Yt:=@List.cons.injEq
def Yu:=@Nat.lt_of_lt_of_le
def Yv:=@List.length_cons
def Yw:=@Nat.le_trans
def Yx:=@Option.some.injEq
def Yy:=@List.mem_cons
def Yz:=@List.eq_nil_of_length_eq_zero
def YA:=@Array.getElem?_eq_some_iff
def YB:=@List.mem_singleton
def YC:=@List.mem_append_left
def YD:=@Nat.lt_succ_self
def YE:=@List.lookup_cons
def YF:=@Array.getElem?_toList
def YG:=@Nat.pow_succ
def YH:=@List.append_assoc
def YI:=@Nat.mul_le_mul_right
def YJ:=@List.mem_append_right
def YK:=@List.mem_cons_self
def YL:=@Nat.pow_le_pow_right
def YM:=@Nat.mul_add
def YN:=@Option.map_eq_some_iff
def YO:=@Nat.add_assoc
def YP:=@List.getElem?_append_left
def YQ:=@List.length_singleton
def YR:=@Nat.eq_zero_or_pos
def YS:=@Nat.add_zero
def YT:=@List.getElem?_map
def YU:=@Array.getD_eq_getD_getElem?
def YV:=@List.mem_of_getElem?
def YW:=@List.drop_zero
def YX:=@Array.length_toList
def YY:=@Nat.mul_assoc
def YZ:=@List.mem_map
def Y0:=@List.length_take
def Y1:=@List.getElem_mem
def Y2:=@Bool.false_eq_true
def Y3:=@Nat.le_of_not_lt
def Y4:=@Nat.mul_zero
def Y5:=@Nat.add_mul
def Y6:=@Array.getElem?_eq_getElem
def Y7:=@List.map_cons
def Y8:=@List.getElem?_drop
def Y9:=@Nat.mul_le_mul_left
def Yaa:=@List.mem_cons_of_mem
def Yab:=@List.append_nil
def Yac:=@Nat.mul_comm
def Yad:=@and_true
def Yae:=@Nat.zero_add
def Yaf:=@List.take_append_drop
def Yag:=@true_and
def Yah:=@of_decide_eq_true
def Yai:=@List.length_drop
def Yaj:=@Bool.or_eq_true
def Yak:=@List.getElem?_append_right
def Yal:=@Nat.lt_succ_of_lt
def Yam:=@List.mem_append
def Yan:=@List.length_map
def Yao:=@Array.ext_getElem?
def Yap:=@Option.map_some
def Yaq:=@Bool.false_and
def Yar:=@List.getElem?_cons_succ
def Yas:=@Nat.mul_one
def Yat:=@decide_eq_false_iff_not
def Yau:=@Bool.true_and
def Yav:=@Bool.and_true
def Yaw:=@List.drop_eq_getElem_cons
def Yax:=@List.map_append
def Yay:=@List.mem_flatMap
def Yaz:=@Nat.zero_lt_succ
def YaA:=@Nat.lt_one_iff
def YaB:=@List.mem_iff_getElem
def YaC:=@Prod.ext
def YaD:=@Option.isSome_iff_exists
def YaE:=@Array.getElem?_setIfInBounds_ne
def YaF:=@Array.getElem?_modify
def YaG:=@Classical.choose_spec
def YaH:=@List.mem_filter
def YaI:=@List.ext_getElem?
def YaJ:=@Nat.lt_or_ge
def YaK:=@Nat.sub_self
def YaL:=@Nat.mod_lt
def YaM:=@List.not_mem_nil
def YaN:=@List.filter_cons
def YaO:=@List.eq_of_mem_replicate
def YaP:=@List.isPrefixOf_nil_left
def YaQ:=@Nat.div_lt_iff_lt_mul
def YaR:=@List.drop_drop
def YaS:=@Array.getElem?_append_left
def YaT:=@Bool.false_or
def YaU:=@beq_self_eq_true
def YaV:=@Bool.not_eq_true'
def YaW:=@List.take_add_one
def YaX:=@List.isPrefixOf_cons₂
def YaY:=@List.nil_append
def YaZ:=@Nat.min_eq_left
def Ya0:=@Nat.not_lt_zero
def Ya1:=@congrArg
def Ya2:=@List.cons_append
def Ya3:=@Nat.mul_lt_mul_of_lt_of_le
def Ya4:=@List.getElem?_set_self
def Ya5:=@Nat.lt_trichotomy
def Ya6:=@List.replicate_succ
def Ya7:=@Nat.le_succ
def Ya8:=@List.length_nil
def Ya9:=@Nat.add_sub_cancel
def Yba:=@List.getElem?_take
def Ybb:=@Nat.lt_of_le_of_lt
def Ybc:=@Prod.mk.injEq
def Ybd:=@Nat.mul_le_mul
def Ybe:=@Nat.mul_lt_mul_of_pos_right
def Ybf:=@Bool.and_self
def Ybg:=@List.all_cons
def Ybh:=@decide_eq_decide
def Ybi:=@Nat.mod_eq_of_lt
def Ybj:=@List.findIdx?_cons
def Ybk:=@Nat.lt_of_mul_lt_mul_right
def Ybl:=@List.contains_iff_mem
def Ybm:=@Nat.eq_of_beq_eq_true
def Ybn:=@Bool.eq_iff_iff
def Ybo:=@Nat.zero_mul
def Ybp:=@List.mem_of_mem_take
def Ybq:=@beq_eq_false_iff_ne
def Ybr:=@List.length_pos_iff
def Ybs:=@List.getElem_of_mem
def Ybt:=@List.take_set_of_le
def Ybu:=@Nat.add_sub_cancel_left
def Ybv:=@List.take_take
def Ybw:=@Array.eq_empty_of_size_eq_zero
def Ybx:=@List.drop_eq_nil_of_le
def Yby:=@Array.getElem?_map
def Ybz:=@Nat.pos_of_ne_zero
def YbA:=@Nat.div_add_mod
def YbB:=@UInt8.toNat_inj
def YbC:=@List.foldl_cons
def YbD:=@List.all_append
def YbE:=@Nat.le_div_iff_mul_le
def YbF:=@List.mem_range
def YbG:=@Nat.mul_pos
def YbH:=@Nat.one_mul
def YbI:=@Array.size_replicate
def YbJ:=@Option.getD_some
def YbK:=@Array.toList_inj
def YbL:=@List.drop_set_of_lt
def YbM:=@List.map_congr_left
def YbN:=@Bool.not_true
def YbO:=@List.take_left'
def YbP:=@Nat.pow_add
def YbQ:=@List.findIdx?_eq_some_iff_getElem
def YbR:=@Bool.and_false
def YbS:=@List.take_zero
def YbT:=@Nat.gcd_zero_left
def YbU:=@Nat.gcd_one_right
def YbV:=@Array.getElem?_push_lt
def YbW:=@Nat.sub_zero
def YbX:=@List.take_succ_eq_append_getElem
def YbY:=@Nat.le_of_lt
def YbZ:=@or_false
def Yb0:=@List.drop_of_length_le
def Yb1:=@UInt8.lt_iff_toNat_lt
def Yb2:=@Nat.le_of_ble_eq_true
def Yb3:=@decide_not
def Yb4:=@Nat.div_eq_of_lt
def Yb5:=@List.map_drop
def Yb6:=@decide_true
def Yb7:=@List.range_eq_range'
def Yb8:=@List.mem_of_mem_drop
def Yb9:=@Bool.or_eq_false_iff
def Yca:=@Nat.div_le_self
def Ycb:=@Int.natCast_mul
def Ycc:=@Nat.div_mul_le_self
def Ycd:=@List.drop_take
def Yce:=@Bool.false_ne_true
def Ycf:=@List.mem_or_eq_of_mem_set
def Ycg:=@Nat.pow_pos
def Ych:=@Int.le_refl
def Yci:=@Bool.not_eq_true
def Ycj:=@Option.getD_none
def Yck:=@List.getElem?_replicate
def Ycl:=@Nat.beq_eq
def Ycm:=@List.length_replicate
def Ycn:=@Bool.and_eq_false_iff
def Yco:=@and_self
def Ycp:=@Nat.le_of_dvd
def Ycq:=@List.map_nil
def Ycr:=@List.all_nil
end Go

namespace Go.Ab
inductive V where
 |bool (b:Bool)
 |int (k:IntKind) (n:Int)
 |str (s:List UInt8)
 |nilS
 |sl (b off len sz:Nat) (cap:Option Nat)
 |fs (cells:List V) (len:Nat)
 |nilP
 |ptr (b off:Nat)
 |fp (cells:List V)
 |nilM
 |map (b:Nat)
 |fn (f:FuncId) (cap:List V)
 |bnd (f:FuncId) (first:List V)
 |nilF
 |ifc (t:TypeId) (v:V)
 |nilI
 |agg (cells:List V)
 |tup (vs:List V)
 |any
 |opt (b:Bool) (v:V)
 deriving Inhabited
abbrev ZA:=List V
structure Tgt where
 c:Nat
 sh:Nat
 tot:Nat
structure G where
 mu:Nat→Option Tgt
 phi:Nat→Option (Array Value)
def G.le(g g':G):Prop:=(∀b T,g.mu b=some T→g'.mu b=some T)∧(∀c a,g.phi c=some a→g'.phi c=some a)
def G.le_refl(g:G):g.le g:=⟨fun _ _ h=>h,fun _ _ h=>h⟩
def G.le_trans {g g' g'':G}(h:g.le g')(k:g'.le g''):g.le g'':=⟨fun b T e=>k.1 b T (h.1 b T e),fun c a e=>k.2 c a (h.2 c a e)⟩
inductive VRel(g:G):V→Value→Prop
 |bool (b):VRel g (.bool b) (.bool b)
 |int (k n):VRel g (.int k n) (.int k n)
 |str {l:List UInt8} {s:ByteArray} (h:s.data.toList=l):VRel g (.str l) (.string s)
 |nilS:VRel g .nilS (.slice none 0 0)
 |sl {b off len sz:Nat} {kc:Option Nat} {T:Tgt} {o cap:Nat} (hm:g.mu b=some T) (hl:len≤cap)
  (ho:cap≠0→o=T.sh+off∧o+cap*sz≤T.tot) (hk:∀k,kc=some k→cap=k):
  VRel g (.sl b off len sz kc) (.slice (some ⟨T.c,o,none⟩) len cap)
 |fs {cells:List V} {len c o cap:Nat} {arr:Array Value} (vs:Nat→Value) (hp:g.phi c=some arr) (hl:len≤cap)
  (h1:∀i:Nat,i<cells.length→arr[o+i]? =some (vs i)) (h2:∀(i:Nat)(x:V),cells[i]? =some x→VRel g x (vs i)):
  VRel g (.fs cells len) (.slice (some ⟨c,o,none⟩) len cap)
 |fs0 {a:Option Addr} {cap:Nat} (ha:a=none→cap=0):VRel g (.fs [] 0) (.slice a 0 cap)
 |nilP:VRel g .nilP (.pointer none)
 |ptr {b off:Nat} {T:Tgt} (hm:g.mu b=some T):VRel g (.ptr b off) (.pointer (some ⟨T.c,T.sh+off,none⟩))
 |fp {cells:List V} {c o:Nat} {arr:Array Value} (vs:Nat→Value) (hp:g.phi c=some arr)
  (h1:∀i:Nat,i<cells.length→arr[o+i]? =some (vs i)) (h2:∀(i:Nat)(x:V),cells[i]? =some x→VRel g x (vs i)):
  VRel g (.fp cells) (.pointer (some ⟨c,o,none⟩))
 |nilM:VRel g .nilM (.map none)
 |map {b:Nat} {T:Tgt} (hm:g.mu b=some T):VRel g (.map b) (.map (some T.c))
 |fn {f:FuncId} {cap:List V} {arr:Array Value} (vs:Nat→Value) (hs:arr.size=cap.length)
  (h1:∀i:Nat,i<cap.length→arr[i]? =some (vs i)) (h2:∀(i:Nat)(x:V),cap[i]? =some x→VRel g x (vs i)):
  VRel g (.fn f cap) (.func (.func f) #[] arr)
 |bnd {f:FuncId} {first:List V} {arr:Array Value} (vs:Nat→Value) (hs:arr.size=first.length)
  (h1:∀i:Nat,i<first.length→arr[i]? =some (vs i)) (h2:∀(i:Nat)(x:V),first[i]? =some x→VRel g x (vs i)):
  VRel g (.bnd f first) (.func (.func f) arr #[])
 |nilF:VRel g .nilF .nilFunc
 |ifc {t:TypeId} {v:V} {x:Value} (h:VRel g v x):VRel g (.ifc t v) (.iface t x)
 |nilI:VRel g .nilI .nilIface
 |agg {cells:List V} {arr:Array Value} (vs:Nat→Value) (hs:arr.size=cells.length)
  (h1:∀i:Nat,i<cells.length→arr[i]? =some (vs i)) (h2:∀(i:Nat)(x:V),cells[i]? =some x→VRel g x (vs i)):
  VRel g (.agg cells) (.agg arr)
 |tup {cells:List V} {arr:Array Value} (vs:Nat→Value) (hs:arr.size=cells.length)
  (h1:∀i:Nat,i<cells.length→arr[i]? =some (vs i)) (h2:∀(i:Nat)(x:V),cells[i]? =some x→VRel g x (vs i)):
  VRel g (.tup cells) (.tuple arr)
 |any (v):VRel g .any v
 |opt {b:Bool} {v:V} {x:Value} (h1:b=true→VRel g v x) (h2:b=false→x=undef):VRel g (.opt b v) x
def PW(g:G)(l:List V)(get:Nat→Option Value):Prop:=∀(i:Nat)(x:V),l[i]? =some x→∃v,get i=some v∧VRel g x v
def PW.skolem {g:G}{l:List V}{get:Nat→Option Value}(h:PW g l get):∃vs:Nat→Value,(∀i:Nat,i<l.length→get i=some (vs i))∧∀(i:Nat)(x:V),l[i]? =some x→VRel g x (vs i):=by
 refine⟨fun i=>(get i).getD default,fun i hi=>?_,fun i x hx=>?_⟩
 ·obtain⟨v,hv,_⟩:=h i l[i] (by simp[hi]);simp[hv]
 obtain⟨v,hv,hr⟩:=h i x hx;simpa[hv]using hr
def PW.of {g:G}{l:List V}{get:Nat→Option Value}{vs:Nat→Value}(h1:∀i:Nat,i<l.length→get i=some (vs i)) (h2:∀(i:Nat)(x:V),l[i]? =some x→VRel g x (vs i)):PW g l get:=
 fun i x hx=>⟨vs i,h1 i (by by_cases h:i<l.length;exact h;simp[Yo (Y3 h)]at hx),h2 i x hx⟩
def VRel.mono {g g':G}(h:g.le g'){x:V}{v:Value}(r:VRel g x v):VRel g' x v:=by
 induction r with
 |bool b=>exact .bool b
 |int k n=>exact .int k n
 |str h=>exact .str h
 |nilS=>exact .nilS
 |sl hm hl ho hk=>exact .sl (h.1 _ _ hm) hl ho hk
 |fs vs hp hl h1 _ ih=>exact .fs vs (h.2 _ _ hp) hl h1 ih
 |fs0 ha=>exact .fs0 ha
 |nilP=>exact .nilP
 |ptr hm=>exact .ptr (h.1 _ _ hm)
 |fp vs hp h1 _ ih=>exact .fp vs (h.2 _ _ hp) h1 ih
 |nilM=>exact .nilM
 |map hm=>exact .map (h.1 _ _ hm)
 |fn vs hs h1 _ ih=>exact .fn vs hs h1 ih
 |bnd vs hs h1 _ ih=>exact .bnd vs hs h1 ih
 |nilF=>exact .nilF
 |ifc _ ih=>exact .ifc ih
 |nilI=>exact .nilI
 |agg vs hs h1 _ ih=>exact .agg vs hs h1 ih
 |tup vs hs h1 _ ih=>exact .tup vs hs h1 ih
 |any v=>exact .any v
 |opt _ h2 ih=>exact .opt ih h2
def PW.mono {g g':G}(h:g.le g'){l:List V}{get:Nat→Option Value}(p:PW g l get):PW g' l get:=
 fun i x hx=>let ⟨v,hv,r⟩:=p i x hx;⟨v,hv,r.mono h⟩
def PW.congr {g:G}{l:List V}{get get':Nat→Option Value}(p:PW g l get)(h:∀i,i<l.length→get' i=get i):PW g l get':=
 fun i x hx=>by
  have hi:i<l.length:=by by_cases h:i<l.length;exact h;simp[Yo (Y3 h)]at hx
  obtain⟨v,hv,r⟩:=p i x hx;exact⟨v,(h i hi).trans hv,r⟩
def PW.nil {g:G}{get:Nat→Option Value}:PW g [] get:=fun i x h=>by simp at h
def PW.drop {g:G}{l:List V}{get:Nat→Option Value}(p:PW g l get)(n:Nat):PW g (l.drop n) (fun i=>get (n+i)):=
 fun i x hx=>p (n+i) x (by rw[Y8]at hx;exact hx)
def PW.take {g:G}{l:List V}{get:Nat→Option Value}(p:PW g l get)(n:Nat):PW g (l.take n) get:=
 fun i x hx=>p i x (by
  rw[Yba]at hx;split at hx
  ·exact hx
  simp at hx)
def PW.append {g:G}{l r:List V}{get:Nat→Option Value}(p:PW g l get)(q:PW g r (fun i=>get (l.length+i))):PW g (l++r) get:=
 fun i x hx=>by
  by_cases h:i<l.length
  ·rw[YP h]at hx;exact p i x hx
  rw[Yak (Y3 h)]at hx;obtain⟨v,hv,hr⟩:=q _ x hx;have hv':get (l.length+(i-l.length))=some v:=hv;rw[show l.length+(i-l.length)=i by omega]at hv';exact⟨v,hv',hr⟩
def PW.set {g:G}{l:List V}{get get':Nat→Option Value}{n:Nat}{y:V}{u:Value}(p:PW g l get)(hy:VRel g y u) (h1:get' n=some u) (h2:∀i,i≠n→get' i=get i):PW g (l.set n y) get':=by
 intro i x hx;rw[List.getElem?_set]at hx;split at hx
 ·rename_i he;subst he;split at hx
  ·cases hx;exact⟨u,h1,hy⟩
  simp at hx
 rename_i he;obtain⟨v,hv,hr⟩:=p i x hx;exact⟨v,(h2 i (fun e=>he e.symm)).trans hv,hr⟩
def VRel.inv_int {g:G}{k n v}(h:VRel g (.int k n) v):v=.int k n:=by cases h;rfl
def VRel.inv_bool {g:G}{b v}(h:VRel g (.bool b) v):v=.bool b:=by cases h;rfl
def VRel.inv_str {g:G}{l v}(h:VRel g (.str l) v):∃s:ByteArray,v=.string s∧s.data.toList=l:=by cases h;exact⟨_,rfl,by assumption⟩
def VRel.inv_agg {g:G}{l v}(h:VRel g (.agg l) v):∃arr:Array Value,v=.agg arr∧arr.size=l.length∧PW g l (fun i=>arr[i]?):=by
 cases h with
 |agg vs hs h1 h2=>exact⟨_,rfl,hs,PW.of h1 h2⟩
def VRel.inv_tup {g:G}{l v}(h:VRel g (.tup l) v):∃arr:Array Value,v=.tuple arr∧arr.size=l.length∧PW g l (fun i=>arr[i]?):=by
 cases h with
 |tup vs hs h1 h2=>exact⟨_,rfl,hs,PW.of h1 h2⟩
def VRel.inv_fn {g:G}{f l v}(h:VRel g (.fn f l) v):∃arr:Array Value,v=.func (.func f) #[] arr∧arr.size=l.length∧PW g l (fun i=>arr[i]?):=by
 cases h with
 |fn vs hs h1 h2=>exact⟨_,rfl,hs,PW.of h1 h2⟩
def VRel.inv_bnd {g:G}{f l v}(h:VRel g (.bnd f l) v):∃arr:Array Value,v=.func (.func f) arr #[]∧arr.size=l.length∧PW g l (fun i=>arr[i]?):=by
 cases h with
 |bnd vs hs h1 h2=>exact⟨_,rfl,hs,PW.of h1 h2⟩
def Xv {g:G}{f:FuncId}{l:List V}{arr:Array Value}(hs:arr.size=l.length)(p:PW g l (fun i=>arr[i]?)):VRel g (.bnd f l) (.func (.func f) arr #[]):=by obtain⟨vs,h1,h2⟩:=p.skolem;exact .bnd vs hs h1 h2
def VRel.inv_fp {g:G}{l v}(h:VRel g (.fp l) v):∃c o arr,v=.pointer (some ⟨c,o,none⟩)∧g.phi c=some arr∧PW g l (fun i=>arr[o+i]?):=by
 cases h with
 |fp vs hp h1 h2=>exact⟨_,_,_,rfl,hp,PW.of h1 h2⟩
def VRel.inv_ptr {g:G}{b off v}(h:VRel g (.ptr b off) v):∃T:Tgt,g.mu b=some T∧v=.pointer (some ⟨T.c,T.sh+off,none⟩):=by
 cases h with
 |ptr hm=>exact⟨_,hm,rfl⟩
def VRel.inv_sl {g:G}{b off len sz kc v}(h:VRel g (.sl b off len sz kc) v):∃(T:Tgt)(o cap:Nat),g.mu b=some T∧len≤cap∧(cap≠0→o=T.sh+off∧o+cap*sz≤T.tot)∧(∀k,kc=some k→cap=k)∧v=.slice (some ⟨T.c,o,none⟩) len cap:=by
 cases h with
 |sl hm hl ho hk=>exact⟨_,_,_,hm,hl,ho,hk,rfl⟩
def Xj {g:G}{l:List V}{arr:Array Value}(hs:arr.size=l.length)(p:PW g l (fun i=>arr[i]?)):VRel g (.agg l) (.agg arr):=by obtain⟨vs,h1,h2⟩:=p.skolem;exact .agg vs hs h1 h2
def Xf {g:G}{l:List V}{arr:Array Value}(hs:arr.size=l.length)(p:PW g l (fun i=>arr[i]?)):VRel g (.tup l) (.tuple arr):=by obtain⟨vs,h1,h2⟩:=p.skolem;exact .tup vs hs h1 h2
def Xn {g:G}{f:FuncId}{l:List V}{arr:Array Value}(hs:arr.size=l.length)(p:PW g l (fun i=>arr[i]?)):VRel g (.fn f l) (.func (.func f) #[] arr):=by obtain⟨vs,h1,h2⟩:=p.skolem;exact .fn vs hs h1 h2
def VRel.mk_fp {g:G}{l:List V}{c o:Nat}{arr:Array Value}(hp:g.phi c=some arr)(p:PW g l (fun i=>arr[o+i]?)):VRel g (.fp l) (.pointer (some ⟨c,o,none⟩)):=by obtain⟨vs,h1,h2⟩:=p.skolem;exact .fp vs hp h1 h2
def Xk {g:G}{l:List V}{len c o cap:Nat}{arr:Array Value}(hp:g.phi c=some arr)(hl:len≤cap)(p:PW g l (fun i=>arr[o+i]?)):VRel g (.fs l len) (.slice (some ⟨c,o,none⟩) len cap):=by obtain⟨vs,h1,h2⟩:=p.skolem;exact .fs vs hp hl h1 h2
def VRel.inv_fs {g:G}{l:List V}{len v}(h:VRel g (.fs l len) v):∃(a:Option Addr)(cap:Nat),v=.slice a len cap∧len≤cap∧(l=[]∧len=0∧(a=none→cap=0)∨∃c o arr,a=some ⟨c,o,none⟩∧g.phi c=some arr∧PW g l (fun i=>arr[o+i]?)):=by
 cases h with
 |fs vs hp hl h1 h2=>exact⟨_,_,rfl,hl,.inr ⟨_,_,_,rfl,hp,PW.of h1 h2⟩⟩
 |fs0 ha=>exact⟨_,_,rfl,Yk _,.inl ⟨rfl,rfl,ha⟩⟩
def V.cellsV:V→List V
 | .agg cs=>cs
 |v=>[v]
def V.one:V→Bool
 | .agg _| .tup _| .any| .opt .. =>false
 |_=>true
def VRel.oneCell {g:G}{x:V}{v:Value}(h:VRel g x v)(ho:x.one=true):v.oneCell'=true:=by
 cases h<;>first|rfl|(simp[V.one]at ho)
def VRel.cells {g:G}{x:V}{v:Value}(h:VRel g x v)(ho:x.one=true∨∃l,x=.agg l):v.cells.size=x.cellsV.length∧PW g x.cellsV (fun i=>v.cells[i]?):=by
 rcases ho with ho|⟨l,rfl⟩
 ·have h1:x.cellsV=[x]:=by cases x<;>first|rfl|(simp[V.one]at ho)
  have h2:v.cells=#[v]:=by
   have:=h.oneCell ho;cases v<;>first|rfl|(simp[Value.oneCell']at this)
  rw[h1,h2];refine⟨rfl,fun i y hy=>?_⟩;match i,hy with
  |0,hy=>simp at hy;subst hy;exact⟨v,rfl,h⟩
 obtain⟨arr,rfl,hs,hp⟩:=h.inv_agg;exact⟨hs,hp⟩
def zuT:List V:=(List.range 20).map fun i=>.int .u64 (10^i:Nat)
def firstN(b:Nat):Nat:=if b<128 then 240 else if b<194 then 241 else if b<224 then 2 else if b=224 then 19 else if b<237 then 3 else if b=237 then 35 else if b<240 then 3 else if b=240 then 52 else if b<244 then 4 else if b=244 then 68 else 241
def zpX:List V:=(List.range 256).map fun b=>.int .u8 (firstN b:Nat)
def accV:List V:=([128,191,160,191,128,159,144,191,128,143]++List.replicate 22 0).map fun(n:Nat)=>.int .u8 n
def GL(k:Nat):Option (List V):=if k=4 then some zuT else if k=1 then some zpX else if k=2 then some accV else none
def GOK(g:G):Prop:=∀k cs,GL k=some cs→VRel ⟨fun _=>none,g.phi⟩ (.fp cs) (.pointer (some ⟨k,0,none⟩))∧∃arr,g.phi k=some arr∧arr.size=cs.length
def GOK.mono {g g':G}(hp:∀c a,g.phi c=some a→g'.phi c=some a)(h:GOK g):GOK g':=fun k cs e=>
 ⟨VRel.mono (g:=⟨fun _=>none,g.phi⟩) (g':=⟨fun _=>none,g'.phi⟩) ⟨fun _ _ e=>e,hp⟩ (h k cs e).1,let ⟨arr,h1,h2⟩:=(h k cs e).2;⟨arr,hp _ _ h1,h2⟩⟩
def GOK.rel {g:G}(h:GOK g){k:Nat}{cs:List V}(e:GL k=some cs):VRel g (.fp cs) (.pointer (some ⟨k,0,none⟩)):=
 VRel.mono (g:=⟨fun _=>none,g.phi⟩) (g':=g) ⟨fun _ _ e=>(nomatch e),fun _ _ e=>e⟩ (h k cs e).1
end Go.Ab

namespace Go.Ab
def dn(w:World):Nat:=bif Nat.beq 0 4294967295 then w.drawn else 0
def zsF {w w':World}(h:w.drawn≤w'.drawn):dn w≤dn w':=by
 unfold dn;cases Nat.beq 0 4294967295
 ·exact Yc _
 exact h
structure Tp(w w':World):Prop where
 eq:w'.tape=w.tape
 le:dn w≤dn w'
def Tp.refl(w:World):Tp w w:=⟨rfl,Yc _⟩
def Tp.trans {a b c:World}(k:Tp b c)(h:Tp a b):Tp a c:=⟨k.eq.trans h.eq,Yw h.le k.le⟩
structure Bel(B:Nat)(w w':World):Prop where
 os:w'.os=w.os
 tape:Tp w w'
 output:w'.output=w.output
 size:w.heap.size≤w'.heap.size
 block:∀k,k<B→w'.heap[k]? =w.heap[k]?
def Bel.of {B:Nat}{w w':World}(h:Go.RowKit.Below B w w')(hd:w.drawn≤w'.drawn):Bel B w w':=⟨h.os,⟨h.tape,zsF hd⟩,h.output,h.size,h.block⟩
def Bel.refl(B:Nat)(w:World):Bel B w w:=.of (.refl B w) (Yc _)
inductive Blk where
 |cells (cs:ZA)
 |mp (es:List (Nat×V×V)) (clock:Nat)
 |it (m:Option Nat) (bs left:ZN) (since last:Nat) (cur:Option Nat)
 |ty (t:TypeId) (cs:ZA)
 |si (s:ZL) (pos:Nat)
 |ro (cs:ZA)
 deriving Inhabited
abbrev ZH:=List (Nat×Blk)
structure Hp where
 bs:List (Nat×Blk)
 next:Nat
def Hp.get(h:Hp)(b:Nat):Option Blk:=h.bs.lookup b
def Hp.put(h:Hp)(b:Nat)(x:Blk):Hp:={ h with bs:=h.bs.map fun p=>if p.1==b then(p.1,x)else p }
def Hp.kill(h:Hp)(b:Nat):Hp:={ h with bs:=h.bs.filter fun p=>p.1 != b }
def Hp.new(h:Hp)(x:Blk):Hp:={ bs:=(h.next,x)::h.bs,next:=h.next+1 }
def zrO {α:Type}(l:List (Nat×α))(b:Nat)(x:α)(c:Nat):(l.map fun p=>if p.1==b then(p.1,x)else p).lookup c=if c=b then(l.lookup c).map fun _=>x else l.lookup c:=by
 induction l with
 |nil=>simp
 |cons p l ih=>
  obtain⟨k,y⟩:=p;by_cases hk:k=b
  ·subst hk;by_cases hc:c=k
   ·subst hc;simp
   have:(c==k)=false:=by simp[hc]
   simp only[Y7,YaU,if_true,YE,this,Ye hc,ih]
  have hkb:(k==b)=false:=by simp[hk]
  by_cases hc:c=k
  ·subst hc;simp[hk]
  have:(c==k)=false:=by simp[hc]
  simp only[Y7,hkb,Y2,if_false,YE,this,ih]
def zda {α:Type}(l:List (Nat×α))(b c:Nat):(l.filter fun p=>p.1 != b).lookup c=if c=b then none else l.lookup c:=by
 induction l with
 |nil=>simp
 |cons p l ih=>
  obtain⟨k,y⟩:=p;by_cases hk:k=b
  ·subst hk;simp only[bne_self_eq_false,Y2,not_false_eq_true,List.filter_cons_of_neg,ih,YE];by_cases hc:c=k
   ·simp[hc]
   have:(c==k)=false:=by simp[hc]
   simp[hc,this]
  have hkb:(k != b)=true:=by simp[hk]
  simp only[YaN,hkb,if_true,YE,ih];by_cases hc:c=k
  ·subst hc;simp[hk]
  have:(c==k)=false:=by simp[hc]
  simp[this]
def Xd(h:Hp)(b:Nat)(x:Blk)(c:Nat):(h.put b x).get c=if c=b then(h.get c).map fun _=>x else h.get c:=zrO _ _ _ _
def Xh(h:Hp)(b c:Nat):(h.kill b).get c=if c=b then none else h.get c:=zda _ _ _
def Xe(h:Hp)(x:Blk)(c:Nat):(h.new x).get c=if c=h.next then some x else h.get c:=by
 show ((h.next,x)::h.bs).lookup c=_;rw[YE];by_cases hc:c=h.next
 ·simp[hc]
 have:(c==h.next)=false:=by simp[hc]
 simp[this,hc];rfl
inductive BlkRel(g:G):Blk→Tgt→Obj→Prop
 |cells {cs:ZA} {T:Tgt} {arr:Array Value} {t:TypeId} (hs:arr.size=T.tot) (hb:T.sh+cs.length≤T.tot)
  (hp:PW g cs (fun i=>arr[T.sh+i]?)):BlkRel g (.cells cs) T (.cells arr t (0,0))
 |mp {es:List (Nat×V×V)} {T:Tgt} {arr:Array MapEntry} {clock:Nat} (hs:arr.size=es.length) (hb:arr.toList.map (·.born)=es.map (·.1))
  (hk:PW g (es.map (·.2.1)) (fun i=>(arr[i]?).map (·.key))) (hv:PW g (es.map (·.2.2)) (fun i=>(arr[i]?).map (·.val))):BlkRel g (.mp es clock) T (.map arr clock)
 |it0 {bs left:ZN} {since last:Nat} {cur:Option Nat} {T:Tgt} {seen:Array Nat} (hsh:T.sh=0):BlkRel g (.it none bs left since last cur) T (.mapIter none since seen last)
 |it {m:Nat} {bs left:ZN} {since last:Nat} {cur:Option Nat} {T Tm:Tgt} {seen:Array Nat} (hsh:T.sh=0) (hm:g.mu m=some Tm) (hsn:∀n∈bs,seen.contains n= !left.contains n) (hcur:seen.back? =cur):
  BlkRel g (.it (some m) bs left since last cur) T (.mapIter (some Tm.c) since seen last)
 |ty {t:TypeId} {cs:ZA} {T:Tgt} {arr:Array Value} (hs:arr.size=T.tot) (hb:cs.length≤T.tot) (hsh:T.sh=0) (hmx:T.tot≤maxLen)
  (hp:PW g cs (fun i=>arr[i]?)):BlkRel g (.ty t cs) T (.cells arr t (0,0))
 |si {s:ZL} {pos:Nat} {T:Tgt} {ba:ByteArray} (hsh:T.sh=0) (h:ba.data.toList=s):BlkRel g (.si s pos) T (.stringIter ba pos)
 |ro {cs:ZA} {T:Tgt} {arr:Array Value} {t:TypeId} {fr:Nat×Nat} (hs:arr.size=T.tot) (hb:T.sh+cs.length≤T.tot)
  (hp:PW g cs (fun i=>arr[T.sh+i]?)):BlkRel g (.ro cs) T (.cells arr t fr)
def BlkRel.mono {g g':G}(h:g.le g'){x:Blk}{T:Tgt}{o:Obj}(r:BlkRel g x T o):BlkRel g' x T o:=by
 cases r with
 |cells hs hb hp=>exact .cells hs hb (hp.mono h)
 |mp hs hb hk hv=>exact .mp hs hb (hk.mono h) (hv.mono h)
 |it0 hsh=>exact .it0 hsh
 |it hsh hm hsn hcur=>exact .it hsh (h.1 _ _ hm) hsn hcur
 |ty hs hb hsh hmx hp=>exact .ty hs hb hsh hmx (hp.mono h)
 |si hsh h=>exact .si hsh h
 |ro hs hb hp=>exact .ro hs hb (hp.mono h)
def BlkRel.ty_row {g:G}{t:TypeId}{cs:ZA}{T:Tgt}{o:Obj}(r:BlkRel g (.ty t cs) T o):∃arr:Array Value,o=.cells arr t (0,0)∧arr.size=T.tot∧T.sh+cs.length≤T.tot∧T.sh=0∧PW g cs (fun i=>arr[T.sh+i]?):=by
 cases r with
 |ty hs hb hsh hmx hp=>exact⟨_,rfl,hs,by rw[hsh,Yae];exact hb,hsh,hp.congr fun i _=>by rw[hsh,Yae]⟩
def BlkRel.ro_row {g:G}{cs:ZA}{T:Tgt}{o:Obj}(r:BlkRel g (.ro cs) T o):∃(arr:Array Value)(t:TypeId)(fr:Nat×Nat),o=.cells arr t fr∧arr.size=T.tot∧T.sh+cs.length≤T.tot∧PW g cs (fun i=>arr[T.sh+i]?):=by
 cases r with
 |ro hs hb hp=>exact⟨_,_,_,rfl,hs,hb,hp⟩
def BlkRel.ty_mx {g:G}{t:TypeId}{cs:ZA}{T:Tgt}{o:Obj}(r:BlkRel g (.ty t cs) T o):T.tot≤maxLen:=by
 cases r with
 |ty hs hb hsh hmx hp=>exact hmx
structure Inv(g:G)(base:Nat)(H:Hp)(D:Nat→Prop)(w:World):Prop where
 frz:∀c arr,g.phi c=some arr→∃t fr,w.heap[c]? =some (.cells arr t fr)
 dom:∀b T,g.mu b=some T→b<H.next∧base≤T.c∧T.c<w.heap.size
 keys:∀b x,H.get b=some x→b<H.next
 cont:∀b x,D b→H.get b=some x→∃T o,g.mu b=some T∧g.phi T.c=none∧w.heap[T.c]? =some o∧BlkRel g x T o
 inj:∀b b' x x' T T',D b→D b'→H.get b=some x→H.get b'=some x'→g.mu b=some T→g.mu b'=some T'→T.c=T'.c→b=b'
 base:base≤w.heap.size
structure Post(g g':G)(base:Nat)(H H':Hp)(D:Nat→Prop)(W:ZN)(w w':World):Prop where
 le:g.le g'
 inv:Inv g' base H' (fun b=>D b∨H.next≤b) w'
 newmu:∀b T,g'.mu b=some T→g.mu b=some T∨(H.next≤b∧(w.heap.size≤T.c∨∃b0∈W,∃T0,g.mu b0=some T0∧T0.c=T.c))
 newphi:∀c a,g'.phi c=some a→g.phi c=some a∨w.heap.size≤c
 frame:∀c,c<w.heap.size→(∀b∈W,∀T,g.mu b=some T→T.c≠c)→w'.heap[c]? =w.heap[c]?
 size:w.heap.size≤w'.heap.size
 os:w'.os=w.os
 tape:Tp w w'
 output:w'.output=w.output
 aframe:∀b,b<H.next→b∉W→H'.get b=H.get b
 anext:H.next≤H'.next
def Inv.below_phi {g:G}{base:Nat}{H:Hp}{D:Nat→Prop}{w:World}(h:Inv g base H D w){c:Nat}{a:Array Value}(hc:g.phi c=some a):c<w.heap.size:=by obtain⟨t,fr,e⟩:=h.frz c a hc;exact(YA.1 e).1
def Inv.sub {g:G}{base:Nat}{H:Hp}{D D':Nat→Prop}{w:World}(h:Inv g base H D w)(hs:∀b,D' b→D b):Inv g base H D' w:=
 ⟨h.frz,h.dom,h.keys,fun b x hd=>h.cont b x (hs b hd),fun b b' x x' T T' hd hd'=>h.inj b b' x x' T T' (hs b hd) (hs b' hd'),h.base⟩
def Post.refl {g:G}{base:Nat}{H:Hp}{D:Nat→Prop}{w w':World}(h:Inv g base H D w)(hh:w'.heap=w.heap)(ho:w'.os=w.os)(ht:Tp w w')(hu:w'.output=w.output):Post g g base H H D [] w w':=by
 refine⟨g.le_refl,?_,fun b T e=>.inl e,fun c a e=>.inl e,fun c _ _=>by rw[hh],by rw[hh];exact Yc _,ho,ht,hu,fun b _ _=>rfl,Yc _⟩;refine⟨fun c a e=>by rw[hh];exact h.frz c a e,fun b T e=>by rw[hh];exact h.dom b T e,h.keys,fun b x hd e=>?_,fun b b' x x' T T' hd hd' e e'=>?_,by rw[hh];exact h.base⟩
 ·have:=h.keys b x e;rw[hh];exact h.cont b x (hd.resolve_right Zo) e
 have k:=h.keys b x e;have k':=h.keys b' x' e';exact h.inj b b' x x' T T' (hd.resolve_right Zo) (hd'.resolve_right Zo) e e'
def Post.trans {g g' g'':G}{base:Nat}{H H' H'':Hp}{D:Nat→Prop}{W W':ZN}{w w' w'':World} (hi:Inv g base H D w) (p:Post g g' base H H' D W w w') (q:Post g' g'' base H' H'' (fun b=>D b∨H.next≤b) W' w' w''):Post g g'' base H H'' D (W++W'.filter (· <H.next)) w w'':=by
 refine⟨G.le_trans p.le q.le,?_,?_,?_,?_,Yw p.size q.size,q.os.trans p.os,q.tape.trans p.tape,q.output.trans p.output,?_,Yw p.anext q.anext⟩
 ·exact q.inv.sub fun b hb=>hb.elim (fun h=>.inl (.inl h)) (fun h=>.inl (.inr h))
 ·intro b T e;rcases q.newmu b T e with e'|⟨hb,hc⟩
  ·rcases p.newmu b T e' with e2|⟨hb,hc⟩
   ·exact .inl e2
   refine .inr ⟨hb,hc.imp id ?_⟩;rintro⟨b0,h0,T0,e0,ec⟩;exact⟨b0,YC _ h0,T0,e0,ec⟩
  refine .inr ⟨Yw p.anext hb,?_⟩;rcases hc with hc|⟨b0,h0,T0,e0,ec⟩
  ·exact .inl (Yw p.size hc)
  rcases p.newmu b0 T0 e0 with e1|⟨hb1,hc1⟩
  ·have hlt:=(hi.dom b0 T0 e1).1;exact .inr ⟨b0,YJ _ (YaH.2 ⟨h0,by simpa using hlt⟩),T0,e1,ec⟩
  rcases hc1 with hc1|⟨b2,h2,T2,e2,ec2⟩
  ·exact .inl (ec▸hc1)
  exact .inr ⟨b2,YC _ h2,T2,e2,ec2.trans ec⟩
 ·intro c a e;rcases q.newphi c a e with e'|h
  ·exact p.newphi c a e'
  exact .inr (Yw p.size h)
 ·intro c hc hfr;rw[q.frame c (Yu hc p.size) ?_,p.frame c hc fun b hb=>hfr b (YC _ hb)];intro b hb T e ec;rcases p.newmu b T e with e1|⟨hb1,hc1⟩
  ·have hlt:=(hi.dom b T e1).1;exact hfr b (YJ _ (YaH.2 ⟨hb,by simpa using hlt⟩)) T e1 ec
  rcases hc1 with hc1|⟨b2,h2,T2,e2,ec2⟩
  ·omega
  exact hfr b2 (YC _ h2) T2 e2 (ec2.trans ec)
 intro b hb hn;rw[q.aframe b (Yu hb p.anext) fun h=>hn (YJ _ (YaH.2 ⟨h,by simpa using hb⟩)),
  p.aframe b hb fun h=>hn (YC _ h)]
def G.add(g:G)(b:Nat)(T:Tgt):G:={ g with mu:=fun k=>if k=b then some T else g.mu k }
def Xp {g:G}{b:Nat}{T:Tgt}(h:g.mu b=none):g.le (g.add b T):=
 ⟨fun k T' e=>by show (if k=b then some T else g.mu k)=some T';rw[Ye (fun hk=>by subst hk;rw[h]at e;cases e)];exact e,fun _ _ e=>e⟩
def Inv.fresh {g:G}{base:Nat}{H:Hp}{D:Nat→Prop}{w:World}(h:Inv g base H D w):g.mu H.next=none:=by
 cases e:g.mu H.next with
 |none=>rfl
 |some T=>exact absurd (h.dom _ _ e).1 Zo
def Post.new {g:G}{base:Nat}{H:Hp}{D:Nat→Prop}{w w':World}(h:Inv g base H D w){x:Blk}{o:Obj}{tot:Nat} (hh:w'.heap=w.heap.push o) (ho:w'.os=w.os) (ht:Tp w w') (hu:w'.output=w.output) (hr:BlkRel g x ⟨w.heap.size,0,tot⟩ o):Post g (g.add H.next ⟨w.heap.size,0,tot⟩) base H (H.new x) D [] w w':=by
 have hle:g.le (g.add H.next ⟨w.heap.size,0,tot⟩):=Xp h.fresh;have old:∀c,c<w.heap.size→w'.heap[c]? =w.heap[c]? :=fun c hc=>by rw[hh,Array.getElem?_push,Ye Zo]
 have own:∀b T,(g.add H.next ⟨w.heap.size,0,tot⟩).mu b=some T→(b=H.next∧T=⟨w.heap.size,0,tot⟩)∨(b≠H.next∧g.mu b=some T):=by
  intro b T e;simp only[G.add]at e;split at e
  ·rename_i hb;cases e;exact .inl ⟨hb,rfl⟩
  rename_i hb;exact .inr ⟨hb,e⟩
 refine⟨hle,?_,?_,fun c a e=>.inl e,fun c hc _=>old c hc,by rw[hh];simp,ho,ht,hu,?_,Ya7 _⟩
 ·refine⟨?_,?_,?_,?_,?_,?_⟩
  ·intro c a e;rw[old c (h.below_phi (c:=c) e)];exact h.frz c a e
  ·intro b T e;have hs:w'.heap.size=w.heap.size+1:=by rw[hh];simp
   rcases own b T e with⟨rfl,rfl⟩|⟨_,e⟩
   ·exact⟨YD _,h.base,by show w.heap.size<_;omega⟩
   have:=h.dom b T e;exact⟨Yal this.1,this.2.1,Zo⟩
  ·intro b y e;rw[Xe]at e;split at e
   ·rename_i hb;subst hb;exact YD _
   exact Yal (h.keys b y e)
  ·intro b y hd e;rw[Xe]at e;split at e
   ·rename_i hb;subst hb;cases e;refine⟨⟨w.heap.size,0,tot⟩,o,by simp[G.add],?_,by rw[hh];simp,hr.mono hle⟩;cases hp:g.phi w.heap.size with
    |none=>exact hp
    |some a=>exact absurd (h.below_phi hp) Zo
   rename_i hb;have hlt:=h.keys b y e;obtain⟨T,o',e1,e2,e3,e4⟩:=h.cont b y (hd.resolve_right Zo) e;exact⟨T,o',hle.1 _ _ e1,e2,by rw[old _ (h.dom b T e1).2.2];exact e3,e4.mono hle⟩
  ·intro b b' y y' T T' hd hd' e e' m m' ec;rcases own b T m with⟨rfl,rfl⟩|⟨hb,m⟩<;>rcases own b' T' m' with⟨rfl,rfl⟩|⟨hb',m'⟩
   ·rfl
   ·have:=(h.dom b' T' m').2.2;simp at ec;omega
   ·have:=(h.dom b T m).2.2;simp at ec;omega
   rw[Xe,Ye hb]at e;rw[Xe,Ye hb']at e';have k:=h.keys b y e;have k':=h.keys b' y' e';exact h.inj b b' y y' T T' (hd.resolve_right Zo) (hd'.resolve_right Zo) e e' m m' ec
  rw[hh];simp;exact Nat.le_succ_of_le h.base
 ·intro b T e;rcases own b T e with⟨rfl,rfl⟩|⟨_,e⟩
  ·exact .inr ⟨Yc _,.inl (Yc _)⟩
  exact .inl e
 intro b hb _;rw[Xe,Ye Zo]
def Post.put {g:G}{base:Nat}{H:Hp}{D:Nat→Prop}{w w':World}(h:Inv g base H D w){b:Nat}{x y:Blk}{T:Tgt}{o:Obj} (hD:D b) (hb:H.get b=some x) (hm:g.mu b=some T) (hn:w'.heap[T.c]? =some o) (hold:∀c,c≠T.c→w'.heap[c]? =w.heap[c]?) (hs:w'.heap.size=w.heap.size) (ho:w'.os=w.os) (ht:Tp w w') (hu:w'.output=w.output) (hr:BlkRel g y T o):Post g g base H (H.put b y) D [b] w w':=by
 obtain⟨T1,o1,m1,p1,_,_⟩:=h.cont b x hD hb;obtain rfl:=ZT hm m1;refine⟨g.le_refl,?_,fun b T e=>.inl e,fun c a e=>.inl e,fun c _ hc=>hold c fun e=>hc b Zs T1 hm e.symm,Nat.le_of_eq hs.symm,ho,ht,hu,?_,Yc _⟩
 ·refine⟨?_,?_,?_,?_,?_,by rw[hs];exact h.base⟩
  ·intro c a e;rw[hold c (fun ec=>by rw[ec,p1]at e;cases e)];exact h.frz c a e
  ·intro k T' e;rw[hs];exact h.dom k T' e
  ·intro k z e;rw[Xd]at e;split at e
   ·rename_i hk;subst hk;exact h.keys _ _ hb
   exact h.keys k z e
  ·intro k z hd e;rw[Xd]at e;split at e
   ·rename_i hk;subst hk;rw[hb]at e;cases e;exact⟨T1,o,hm,p1,hn,hr⟩
   rename_i hk;have hlt:=h.keys k z e;have hd':=hd.resolve_right Zo;obtain⟨T',o',e1,e2,e3,e4⟩:=h.cont k z hd' e;refine⟨T',o',e1,e2,?_,e4⟩;rw[hold T'.c fun ec=>hk (h.inj k b z x T' T1 hd' hD e hb e1 hm ec)];exact e3
  intro k k' z z' U U' hd hd' e e' m m' ec;have live:∀j q,(H.put b y).get j=some q→∃q',H.get j=some q':=by
   intro j q e;rw[Xd]at e;split at e
   ·rename_i hj;subst hj;exact⟨x,hb⟩
   exact⟨q,e⟩
  obtain⟨q,eq⟩:=live k z e;obtain⟨q',eq'⟩:=live k' z' e';have k1:=h.keys k q eq;have k2:=h.keys k' q' eq';exact h.inj k k' q q' U U' (hd.resolve_right Zo) (hd'.resolve_right Zo) eq eq' m m' ec
 intro k _ hk;rw[Xd,Ye (by simpa using hk)]
def Post.dead {g:G}{base:Nat}{H:Hp}{D:Nat→Prop}{w w':World}(h:Inv g base H D w){b:Nat}{x:Blk}{T:Tgt} (hD:D b) (hb:H.get b=some x) (hm:g.mu b=some T) (hold:∀c,c≠T.c→w'.heap[c]? =w.heap[c]?) (hs:w'.heap.size=w.heap.size) (ho:w'.os=w.os) (ht:Tp w w') (hu:w'.output=w.output):Post g g base H (H.kill b) D [b] w w':=by
 obtain⟨T1,o1,m1,p1,_,_⟩:=h.cont b x hD hb;obtain rfl:=ZT hm m1;have live:∀k z,(H.kill b).get k=some z→k≠b∧H.get k=some z:=by
  intro k z e;rw[Xh]at e;split at e
  ·cases e
  rename_i hk;exact⟨hk,e⟩
 refine⟨g.le_refl,?_,fun b T e=>.inl e,fun c a e=>.inl e,fun c _ hc=>hold c fun e=>hc b Zs T1 hm e.symm,Nat.le_of_eq hs.symm,ho,ht,hu,?_,Yc _⟩
 ·refine⟨?_,?_,?_,?_,?_,by rw[hs];exact h.base⟩
  ·intro c a e;rw[hold c (fun ec=>by rw[ec,p1]at e;cases e)];exact h.frz c a e
  ·intro k T' e;rw[hs];exact h.dom k T' e
  ·intro k z e;exact h.keys k z (live k z e).2
  ·intro k z hd e;obtain⟨hk,e⟩:=live k z e;have hlt:=h.keys k z e;have hd':=hd.resolve_right Zo;obtain⟨T',o',e1,e2,e3,e4⟩:=h.cont k z hd' e;refine⟨T',o',e1,e2,?_,e4⟩;rw[hold T'.c fun ec=>hk (h.inj k b z x T' T1 hd' hD e hb e1 hm ec)];exact e3
  intro k k' z z' U U' hd hd' e e' m m' ec;obtain⟨_,e⟩:=live k z e;obtain⟨_,e'⟩:=live k' z' e';have k1:=h.keys k z e;have k2:=h.keys k' z' e';exact h.inj k k' z z' U U' (hd.resolve_right Zo) (hd'.resolve_right Zo) e e' m m' ec
 intro k _ hk;rw[Xh,Ye (by simpa using hk)]
def Post.take {g:G}{base:Nat}{H:Hp}{D:Nat→Prop}{w w':World}(h:Inv g base H D w){b:Nat}{x y:Blk}{T:Tgt}{o:Obj}{sh:Nat} (hD:D b) (hb:H.get b=some x) (hm:g.mu b=some T) (hn:w'.heap[T.c]? =some o) (hold:∀c,c≠T.c→w'.heap[c]? =w.heap[c]?) (hs:w'.heap.size=w.heap.size) (ho:w'.os=w.os) (ht:Tp w w') (hu:w'.output=w.output) (hr:BlkRel g y ⟨T.c,sh,T.tot⟩ o):Post g (g.add H.next ⟨T.c,sh,T.tot⟩) base H ((H.kill b).new y) D [b] w w':=by
 obtain⟨T1,o1,m1,p1,_,_⟩:=h.cont b x hD hb;obtain rfl:=ZT hm m1;have hle:g.le (g.add H.next ⟨T1.c,sh,T1.tot⟩):=Xp h.fresh;have kb:=h.keys b x hb;have own:∀b T,(g.add H.next ⟨T1.c,sh,T1.tot⟩).mu b=some T→(b=H.next∧T=⟨T1.c,sh,T1.tot⟩)∨(b≠H.next∧g.mu b=some T):=by
  intro b T e;simp only[G.add]at e;split at e
  ·rename_i hb;cases e;exact .inl ⟨hb,rfl⟩
  rename_i hb;exact .inr ⟨hb,e⟩
 have get':∀k,((H.kill b).new y).get k=if k=H.next then some y else if k=b then none else H.get k:=by intro k;rw[Xe,Xh];rfl
 refine⟨hle,?_,?_,fun c a e=>.inl e,fun c _ hc=>hold c fun e=>hc b Zs T1 hm e.symm,Nat.le_of_eq hs.symm,ho,ht,hu,?_,Ya7 _⟩
 ·refine⟨?_,?_,?_,?_,?_,by rw[hs];exact h.base⟩
  ·intro c a e;have e':g.phi c=some a:=e;rw[hold c (fun ec=>by rw[ec,p1]at e';cases e')];exact h.frz c a e'
  ·intro k T' e;rw[hs];rcases own k T' e with⟨rfl,rfl⟩|⟨_,e⟩
   ·exact⟨YD _,(h.dom b T1 hm).2⟩
   have:=h.dom k T' e;exact⟨Yal this.1,this.2⟩
  ·intro k z e;rw[get']at e;split at e
   ·rename_i hk;subst hk;exact YD _
   split at e
   ·cases e
   exact Yal (h.keys k z e)
  ·intro k z hd e;rw[get']at e;split at e
   ·rename_i hk;subst hk;cases e;exact⟨⟨T1.c,sh,T1.tot⟩,o,by simp[G.add],p1,hn,hr.mono hle⟩
   split at e
   ·cases e
   rename_i hk hkb;have hlt:=h.keys k z e;have hd':=hd.resolve_right Zo;obtain⟨T',o',e1,e2,e3,e4⟩:=h.cont k z hd' e;refine⟨T',o',hle.1 _ _ e1,e2,?_,e4.mono hle⟩;rw[hold T'.c fun ec=>hkb (h.inj k b z x T' T1 hd' hD e hb e1 hm ec)];exact e3
  intro k k' z z' U U' hd hd' e e' m m' ec;rw[get']at e e';rcases own k U m with⟨rfl,rfl⟩|⟨hk,m⟩<;>rcases own k' U' m' with⟨rfl,rfl⟩|⟨hk',m'⟩
  ·rfl
  ·rw[Ye hk']at e';split at e'
   ·cases e'
   rename_i hkb;have k2:=h.keys k' z' e';exact absurd (h.inj k' b z' x U' T1 (hd'.resolve_right Zo) hD e' hb m' hm ec.symm) hkb
  ·rw[Ye hk]at e;split at e
   ·cases e
   rename_i hkb;have k1:=h.keys k z e;exact absurd (h.inj k b z x U T1 (hd.resolve_right Zo) hD e hb m hm ec) hkb
  rw[Ye hk]at e;rw[Ye hk']at e';split at e
  ·cases e
  split at e'
  ·cases e'
  have k1:=h.keys k z e;have k2:=h.keys k' z' e';exact h.inj k k' z z' U U' (hd.resolve_right Zo) (hd'.resolve_right Zo) e e' m m' ec
 ·intro k T' e;rcases own k T' e with⟨rfl,rfl⟩|⟨_,e⟩
  ·exact .inr ⟨Yc _,.inr ⟨b,Zs,T1,hm,rfl⟩⟩
  exact .inl e
 intro k hk hn;rw[get',Ye Zo,Ye (by simpa using hn)]
def G.more(g:G)(phi':Nat→Option (Array Value)):G:={ g with phi:=fun c=>(g.phi c).or (phi' c) }
def G.more_le(g:G)(phi':Nat→Option (Array Value)):g.le (g.more phi'):=
 ⟨fun _ _ e=>e,fun c a e=>by show (g.phi c).or (phi' c)=some a;rw[e];rfl⟩
def Post.pure {g:G}{base:Nat}{H:Hp}{D:Nat→Prop}{w w':World}(h:Inv g base H D w)(phi':Nat→Option (Array Value)) (hb:Bel w.heap.size w w') (hp:∀c a,phi' c=some a→w.heap.size≤c∧∃t fr,w'.heap[c]? =some (.cells a t fr)):Post g (g.more phi') base H H D [] w w':=by
 have own:∀c a,(g.more phi').phi c=some a→g.phi c=some a∨phi' c=some a:=by
  intro c a e;cases e1:g.phi c with
  |none=>right;simpa[G.more,e1]using e
  |some a'=>left;simpa[G.more,e1]using e
 refine⟨g.more_le phi',?_,fun b T e=>.inl e,fun c a e=>(own c a e).imp id fun e=>(hp c a e).1,fun c hc _=>hb.block c hc,hb.size,hb.os,hb.tape,hb.output,fun b _ _=>rfl,Yc _⟩;refine⟨?_,?_,h.keys,?_,?_,Yw h.base hb.size⟩
 ·intro c a e;rcases own c a e with e|e
  ·rw[hb.block c (h.below_phi e)];exact h.frz c a e
  exact(hp c a e).2
 ·intro b T e;have:=h.dom b T e;exact⟨this.1,this.2.1,Yu this.2.2 hb.size⟩
 ·intro b x hd e;have k:=h.keys b x e;obtain⟨T,o,e1,e2,e3,e4⟩:=h.cont b x (hd.resolve_right Zo) e;have hlt:=(h.dom b T e1).2.2;refine⟨T,o,e1,?_,by rw[hb.block _ hlt];exact e3,e4.mono (g.more_le phi')⟩;cases e5:(g.more phi').phi T.c with
  |none=>rfl
  |some a=>
   rcases own _ _ e5 with e6|e6
   ·rw[e2]at e6;cases e6
   exact absurd (hp _ _ e6).1 Zo
 intro b b' x x' T T' hd hd' e e' m m' ec;have k:=h.keys b x e;have k':=h.keys b' x' e';exact h.inj b b' x x' T T' (hd.resolve_right Zo) (hd'.resolve_right Zo) e e' m m' ec
end Go.Ab

namespace Go.Ab
def cell_of {w:World}{c:Nat}{arr:Array Value}{t:TypeId}{fr:Nat×Nat}(h:w.heap[c]? =some (.cells arr t fr))(i:Nat):w.cell? ⟨c,i,none⟩=arr[i]? :=by simp[World.cell?,h]
def za1(c o n:Nat):(⟨c,o,none⟩:Addr).add n=⟨c,o+n,none⟩:=by unfold Addr.add;split<;>simp_all
def zrE {w:World}{c:Nat}{arr:Array Value}{t:TypeId}(h:w.heap[c]? =some (.cells arr t (0,0)))(i:Nat):w.frozen? ⟨c,i,none⟩=false:=by simp[World.frozen?,h]
def zlj {w:World}{c i:Nat}{arr:Array Value}{t:TypeId}{fr:Nat×Nat}(h:w.heap[c]? =some (.cells arr t fr))(v:Value):(w.setCell ⟨c,i,none⟩ v).heap[c]? =some (.cells (arr.setIfInBounds i v) t fr):=by simp[World.setCell,YaF,h]
def zjv {w:World}{c i k:Nat}(h:k≠c)(v:Value):(w.setCell ⟨c,i,none⟩ v).heap[k]? =w.heap[k]? :=by simp only[World.setCell,YaF];rw[Ye (fun e=>h e.symm)]
structure Only(c:Nat)(w w':World):Prop where
 other:∀k,k≠c→w'.heap[k]? =w.heap[k]?
 size:w'.heap.size=w.heap.size
 os:w'.os=w.os
 tape:Tp w w'
 output:w'.output=w.output
def Only.refl(c:Nat)(w:World):Only c w w:=⟨fun _ _=>rfl,rfl,rfl,.refl _,rfl⟩
def Only.trans {c:Nat}{w w' w'':World}(h:Only c w w')(k:Only c w' w''):Only c w w'':=
 ⟨fun i hi=>(k.other i hi).trans (h.other i hi),k.size.trans h.size,k.os.trans h.os,k.tape.trans h.tape,k.output.trans h.output⟩
def Only.setCell(w:World)(c i:Nat)(v:Value):Only c w (w.setCell ⟨c,i,none⟩ v):=
 ⟨fun _ h=>zjv h v,by simp[World.setCell],rfl,⟨rfl,Yc _⟩,rfl⟩
def zbk {P:Program}{c o:Nat}{t:TypeId}:∀(vs:List Value)(i:Nat)(w:World)(arr:Array Value),w.heap[c]? =some (.cells arr t (0,0))→(∀v∈vs,v.oneCell'=true)→o+i+vs.length≤arr.size→∃w' arr',(storeCells ⟨c,o,none⟩ vs i).run P w=.ok () w'∧w'.heap[c]? =some (.cells arr' t (0,0))∧arr'.size=arr.size∧(∀k,arr'[k]? =if o+i≤k∧k<o+i+vs.length then vs[k-(o+i)]? else arr[k]?)∧Only c w w'
 |[],i,w,arr,h,_,_=>⟨w,arr,rfl,h,rfl,fun k=>by rw[Ye (by simp only[Ya8];omega)],Only.refl _ _⟩
 |v::vs,i,w,arr,h,h1,hb=>by
  simp only[Yv]at hb;have hlt:o+i<arr.size:=Zo;have hc:w.cell? ⟨c,o+i,none⟩=some arr[o+i]:=by rw[cell_of h];simp[hlt]
  obtain⟨w',arr',hr,hh,hs,hk,ho⟩:=zbk (P:=P) (o:=o) vs (i+1) (w.setCell ⟨c,o+i,none⟩ v) (arr.setIfInBounds (o+i) v)
   (zlj h v) (fun u hu=>h1 u (by simp[hu])) (by simp;omega)
  refine⟨w',arr',?_,hh,by simpa using hs,fun k=>?_,(Only.setCell w c (o+i) v).trans ho⟩
  ·simp only[storeCells,Sem.run_bind,za1];rw[run_store P w _ v .plain (h1 v Zs),hc];simp only[zrE h,Y2,if_false,Result.andThen_ok,hr]
  rw[hk k];by_cases hk0:k=o+i
  ·subst hk0;rw[Ye Zo,Yi Zs];simp[hlt]
  rw[YaE Zo];by_cases hk1:o+(i+1)≤k∧k<o+(i+1)+vs.length
  ·rw[Yi hk1,Yi (by simp only[Yv];omega)];rw[show k-(o+i)=(k-(o+(i+1)))+1 by omega,Yar]
  rw[Ye hk1,Ye (by simp only[Yv];omega)]
def PW.splice {g:G}{cs xs:ZA}{get get':Nat→Option Value}{vs:List Value}{off:Nat}(p:PW g cs get)(q:PW g xs (fun i=>vs[i]?))(hl:vs.length=xs.length) (hb:off+xs.length≤cs.length) (h:∀k,get' k=if off≤k∧k<off+xs.length then vs[k-off]? else get k):PW g (cs.take off++xs++cs.drop (off+xs.length)) get':=by
 have e1:(cs.take off).length=off:=by simp;omega
 refine PW.append (PW.append ((p.take off).congr fun i hi=>?_) (q.congr fun i hi=>?_)) ((p.drop (off+xs.length)).congr fun i hi=>?_)
 ·rw[h,Ye (by rw[e1]at hi;omega)]
 ·show get' _=_;rw[e1,h,Yi Zo];congr 1;omega
 show get' _=_;rw[h];simp only[Yg,e1];rw[Ye Zo]
def zak {P:Program}{w:World}{c o n:Nat}{arr:Array Value}{t:TypeId}{fr:Nat×Nat}(h:w.heap[c]? =some (.cells arr t fr))(hb:o+n≤arr.size):(loadCells ⟨c,o,none⟩ n).run P w=.ok (arr.extract o (o+n)) w:=by
 have e:(arr.extract o (o+n)).toList.length=n:=by simp;omega
 have:=run_loadCells_list (P:=P) w ⟨c,o,none⟩ (arr.extract o (o+n)).toList (fun j v hj=>by
  rw[za1,cell_of h];have hj':(arr.extract o (o+n))[j]? =some v:=by rw[←YF];exact hj
  rw[Array.getElem?_extract]at hj';split at hj'
  ·exact hj'
  cases hj')
 rw[e]at this;exact this
def PW.extract {g:G}{l:ZA}{arr:Array Value}{o n:Nat}(p:PW g l (fun i=>arr[o+i]?))(hl:l.length=n):PW g l (fun i=>(arr.extract o (o+n))[i]?):=by
 intro i x hx;obtain⟨v,hv,r⟩:=p i x hx;have hi:i<l.length:=by by_cases h:i<l.length;exact h;simp[Yo (Y3 h)]at hx
 have hlt:o+i<arr.size:=by
  by_cases h:o+i<arr.size
  ·exact h
  have hv':arr[o+i]? =some v:=hv;rw[Yr (Y3 h)]at hv';cases hv'
 refine⟨v,?_,r⟩;show (arr.extract o (o+n))[i]? =some v;rw[Array.getElem?_extract,Yi Zo];exact hv
def PW.size {g:G}{l:ZA}{arr:Array Value}{o:Nat}(p:PW g l (fun i=>arr[o+i]?))(h0:l≠[]):o+l.length≤arr.size:=by
 have hpos:0<l.length:=Ybr.2 h0;obtain⟨v,hv,_⟩:=p (l.length-1) l[l.length-1] Zs;have hv':arr[o+(l.length-1)]? =some v:=hv;by_cases h:o+(l.length-1)<arr.size
 ·omega
 rw[Yr (Y3 h)]at hv';cases hv'
end Go.Ab
