/- A contract out of a run of the machine: scalar results. -/
import Derived.Test.YthbimeikbkjnkaaGreatDoorCAbEvFn
import Derived.Tactics
import Derived.Tactics2
import Derived.Defers
import Derived.Recover
import Derived.Laws.Pointers
import Derived.KernelRfl
import Derived.Laws.Externs
import Derived.Lib.Builder
set_option linter.all false
set_option maxHeartbeats 16000000
set_option maxRecDepth 100000
namespace Go.Ab
variable {P:Program}
theorem PCall.ofH {f:FuncId}{args:List V}{r:AR}(h:HCall P f args ⟨[],0⟩ r)(hp:r.pre)(_hR:r.R=[])(hW:r.W=[])(hs:zax r.v=true)(hpure:∀ x∈args,Pure x):PCall P f args (.ret r.v):=by
 obtain⟨_,hrun⟩:=h;intro g w vs hgl hfrz hvs hpw;let g0:G:=⟨fun _=>none,g.phi⟩
 have hinv:Inv g0 w.heap.size ⟨[],0⟩ (fun _=>True) w:=
  ⟨hfrz,fun b T e=>(by cases e),fun b x e=>(by cases e),fun b x _ e=>(by cases e),fun b b' x x' T T' _ _ e=>(by cases e),Nat.le_refl _⟩
 have hpw0:PW g0 args (fun i=>vs[i]?):=fun i x hx=>by obtain⟨u,hu,ru⟩:=hpw i x hx;exact⟨u,hu,VRel.pure (g:=g) (g':=g0) (fun c a e=>e) ru (hpure x (List.mem_of_getElem? hx))⟩
 refine(hrun hp g0 w.heap.size (fun _=>True) w vs (hgl.mono (fun c a e=>e)) hinv hvs hpw0 (fun _ _=>trivial)).mono fun e w' q=>?_;obtain⟨g',vc,rfl,hv,p⟩:=q;refine⟨fun _=>none,vc,fun c a e=>(by cases e),⟨p.os,p.tape,p.output,p.size,fun k hk=>p.frame k hk fun b hb=>by rw [hW]at hb;cases hb⟩,rfl,zee hs hv⟩
noncomputable def eAns(E:ECfg)(P:Program)(n:Nat)(f:FuncId)(args:List V):Option V:=
 match eFn E P n f args ⟨[],0⟩with
 |some r=>bif zax r.v&&r.R.isEmpty&&r.W.isEmpty then some r.v else none
 |none=>none
theorem zyq {E:ECfg}(hm:P.follows .mixedOrders=true)(hΓ:∀ f args r,E.Γ f args=some r→PCall P f args r)(hcan:∀ f,E.can f=true→zi P f)(hsp:zgK P E)
 {n:Nat} {f:FuncId} {args:List V} {v:V} (hpure:∀ x∈args,Pure x) (h:eAns E P n f args=some v):PCall P f args (.ret v):=by
 unfold eAns at h
 split at h
 rotate_left;·cases h
 rename_i r hr
 cases hs:(zax r.v&&r.R.isEmpty&&r.W.isEmpty)with
 |false=>rw [hs]at h;cases h
 |true=>
  rw [hs]at h
  cases h
  simp only [Bool.and_eq_true,List.isEmpty_iff]at hs
  obtain⟨h1,h2⟩:=eFn_ok hm hΓ hcan hsp n f args _ r hr
  exact PCall.ofH h2 h1 hs.1.2 hs.2 hs.1.1 hpure
def canB(P:Program)(f:FuncId):Bool:=
 match P.funcs[f]? with
 |some fn=>fn.body.isSome&& !(fn.name== "runtime.NumGoroutine")
 |none=>false
theorem canB_ok {f:FuncId}(h:canB P f=true):zi P f:=by
 unfold canB at h;split at h;rotate_left;·cases h
 rename_i fn hf;simp only [Bool.and_eq_true,Bool.not_eq_true',beq_eq_false_iff_ne,ne_eq]at h;obtain⟨hb,hn⟩:=h;intro a w;cases hbb:fn.body with
 |none=>rw [hbb]at hb;cases hb
 |some c=>simp [callFunc,hf,hn,hbb]
def canL(l:List Nat)(n:Nat)(f:FuncId):Bool:=Nat.ble f n&& !(l.contains f)
theorem zaA {l:List Nat}{n:Nat}(h:((List.range (n+1)).all fun f=>l.contains f||canB P f)=true)(f:FuncId)(hf:canL l n f=true):zi P f:=by simp only [canL,Bool.and_eq_true,Bool.not_eq_true']at hf;have:=List.all_eq_true.1 h f (by simp;exact Nat.lt_succ_of_le (Nat.le_of_ble_eq_true hf.1));rw [hf.2,Bool.false_or]at this;exact canB_ok this
end Go.Ab

namespace Go.Proofs
open Tryz Go.Ab
theorem assert_nil(w:World):(Instr.typeAssert .nilIface 20 182 true).run prog w=.ok (.tuple #[.agg #[],.bool false]) w:=by
 have h1:prog.underlying 182=some (.struct #[]):=by kernel_rfl
 have h2:zaU prog 182=some (.agg #[]):=by kernel_rfl
 simp [Instr.typeAssert,run_underlying h1,zbh h2]
theorem catch_idle(p q:Value)(w:World):
 CallsD prog 177 #[p,q] .returning w fun e u' w'=>e=.returned (.tuple #[])∧u'=.returning∧w'=w.alloc (.cells #[] 182):=by
 refine callsD_of_wpS func177 rfl fun c₀ cs hu=>?_
 apply wpS_seq
 apply wpS_region
 simp [wpOpsS,go_sem,recoverD,hu,ntmps177,Exit.thenS,assert_nil]
 apply wpS_seq
 apply wpS_region
 simp [wpOpsS,go_sem,Exit.thenS]
 refine wpS_cond (t:=false) (by simp [Act.eval,Array.replicate]) ?_
 simp only [Bool.false_eq_true,if_false]
 refine wpS_of_wp (wp_skip ?_)
 cases c₀
 simp_all [bodyPostS,results,Tryz.results177]
theorem zih {P:Program}{o:Oper}{a:Act}{next:Act→World→Prop}{Q:Exit→Act→World→Prop}{f:FuncId}{vs:Array Value}{w:World}{R:Ending→World→Prop}(h:GoCall P f vs w R)
 (hr:∀ e w',R e w'→match e with| .returned v=>next (a.put o.dst v) w'| .panicked ch=>Q (.panic ch) a w'| .outgrown=>False):Oper.upon P o a next Q ((callFunc f vs).run P w):=by
 rcases h with⟨h1,h2⟩|⟨v,w',h1,h2⟩
 ·rw [h1]
  refine h2.mono fun e w' q=>?_
  have:=hr e w' q
  cases e with
  |returned v=>exact this
  |panicked ch=>exact this
  |outgrown=>exact this.elim
 ·rw [h1]
  exact hr _ _ h2
theorem ziP(w:World)(fid:FuncId)(caps:Array Value){R1:Value→World→Prop}{R:Ending→World→Prop}
 (h1:GoCall prog fid caps ((w.alloc (.cells #[.string .empty] 9)).alloc (.cells #[.int .i64 0] 27)) fun e w'=>∃ v,e=.returned v∧R1 v w')
 (h3:∀ v w',R1 v w'→Calls prog 178 #[v] w' fun e w''=>∃ s,e=.returned (.string s)∧
  w''.heap[w.heap.size]? =some (.cells #[.string .empty] 9 (0,0))∧w''.heap[w.heap.size+1]? =some (.cells #[.int .i64 0] 27 (0,0))∧
  R (.returned (.tuple #[.string s,.int .i64 0])) (((w''.setCell ⟨w.heap.size,0,none⟩ (.string s)).setCell ⟨w.heap.size+1,0,none⟩ (.int .i64 0)).alloc (.cells #[] 182))):
 Calls prog 146 #[.func (.func fid) #[] caps] w R:=by
 have hmf:∀(fn:Fn) (first cap:Array Value) (w:World),(Instr.makeFunc fn first cap).run prog w=.ok (.func fn first cap) w:=fun _ _ _ _=>rfl
 go_enter_defers func146,ntmps146
 go_wp2
 refine zih h1 ?_
 rintro e w1 ⟨v,rfl,hR1⟩
 have h3':Calls prog 178 #[v] w1 fun e w2=>∃ s,e=.returned (.string s)∧w2.cell? ⟨w.heap.size,0,none⟩=some (.string .empty)∧w2.frozen? ⟨w.heap.size,0,none⟩=false∧
  (w2.setCell ⟨w.heap.size,0,none⟩ (.string s)).cell? ⟨w.heap.size+1,0,none⟩=some (.int .i64 0)∧(w2.setCell ⟨w.heap.size,0,none⟩ (.string s)).frozen? ⟨w.heap.size+1,0,none⟩=false∧
  ((w2.setCell ⟨w.heap.size,0,none⟩ (.string s)).setCell ⟨w.heap.size+1,0,none⟩ (.int .i64 0)).heap[w.heap.size]? =some (.cells #[.string s] 9 (0,0))∧
  ((w2.setCell ⟨w.heap.size,0,none⟩ (.string s)).setCell ⟨w.heap.size+1,0,none⟩ (.int .i64 0)).heap[w.heap.size+1]? =some (.cells #[.int .i64 0] 27 (0,0))∧
  R (.returned (.tuple #[.string s,.int .i64 0])) (((w2.setCell ⟨w.heap.size,0,none⟩ (.string s)).setCell ⟨w.heap.size+1,0,none⟩ (.int .i64 0)).alloc (.cells #[] 182)):=by
  refine(h3 v w1 hR1).mono ?_
  rintro e w2 ⟨s,rfl,hb1,hb2,hR⟩
  refine⟨s,rfl,by simp [World.cell?,hb1],by simp [World.frozen?,hb1],by simp [World.cell?,World.setCell,Array.getElem?_modify,hb2],by simp [World.frozen?,World.setCell,Array.getElem?_modify,hb2],
   by simp [World.setCell,Array.getElem?_modify,hb1],by simp [World.setCell,Array.getElem?_modify,hb2],hR⟩
 go_wp2_with (go_at_call 178;refine h3'.mono ?_;rintro e w2 ⟨s,rfl,hc1,hf1,hc2,hf2,hb1,hb2,hR⟩)
 generalize ((w2.setCell ⟨w.heap.size,0,none⟩ (.string s)).setCell ⟨w.heap.size+1,0,none⟩ (.int .i64 0))=W at hb1 hb2 hR ⊢
 refine leaves_cons (f:=177) (args:=#[.pointer (some ⟨w.heap.size,0,none⟩),.pointer (some ⟨w.heap.size+1,0,none⟩)]) (by simp) (by simp [go_sem]) ?_
 refine(catch_idle _ _ W).mono ?_
 rintro e u' w'' ⟨rfl,rfl,rfl⟩
 have old:∀(c:Nat) (o:Obj),W.heap[c]? =some o→(W.alloc (.cells #[] 182)).heap[c]? =some o:=by intro c o h;have hlt:c<W.heap.size:=(Array.getElem?_eq_some_iff.1 h).1;show (W.heap.push _)[c]? =_;rw [Array.getElem?_push_lt hlt, ←h,Array.getElem?_eq_getElem hlt]
 have e1:(W.alloc (.cells #[] 182)).cell? ⟨w.heap.size,0,none⟩=some (.string s):=by simp [World.cell?,old _ _ hb1]
 have e2:(W.alloc (.cells #[] 182)).cell? ⟨w.heap.size+1,0,none⟩=some (.int .i64 0):=by simp [World.cell?,old _ _ hb2]
 simp [Leaves,settle,results,Tryz.results146,go_sem,e1,e2]
 exact hR
theorem zd9 {P:Program}{f:FuncId}{vs:Array Value}{w:World}{R:Ending→World→Prop}(hc:zi P f)(h:GoCall P f vs w R):Calls P f vs w R:=by
 rcases h with⟨_,h⟩|⟨v,w',h1,_⟩
 ·exact h
 ·rw [hc vs w]at h1;cases h1
theorem zyW:zi prog 146:=canB_ok (by kernel_rfl)
theorem can178:zi prog 178:=canB_ok (by kernel_rfl)
theorem zmL(w:World)(n:Nat)(a b:Value)(o:Obj)(c:Nat)(hlt:c<w.heap.size)(h1:c≠n)(h2:c≠n+1):
 (((w.setCell ⟨n,0,none⟩ a).setCell ⟨n+1,0,none⟩ b).alloc o).heap[c]? =w.heap[c]? :=by
 have hsz:((w.setCell ⟨n,0,none⟩ a).setCell ⟨n+1,0,none⟩ b).heap.size=w.heap.size:=by simp [World.setCell]
 show (Array.push _ _)[c]? =_
 rw [Array.getElem?_push_lt (by rw [hsz];exact hlt), ←Array.getElem?_eq_getElem]
 rw [zbP h2,zbP h1]
theorem zvd {fid:FuncId}{caps:List V}{H:Hp}{r1 r2:AR}{s:List UInt8}(h1:r1.pre∧HCall prog fid caps H r1)(h2:r2.pre∧HCall prog 178 [r1.v] r1.h r2)(hv:r2.v=.str s):
 HCall prog 146 [.fn fid caps] H ⟨True,.tup [.str s,.int .i64 0],r2.h,r1.R++r2.R.filter (· <H.next),r1.W++r2.W.filter (· <H.next)⟩:=by
 obtain⟨p1,s1,c1⟩:=h1
 obtain⟨p2,s2,c2⟩:=h2
 refine⟨fun _=>(s1 p1).trans (s2 p2),fun _ g base D w vs hgl hI hvs hpw hD=>?_⟩
 obtain⟨vf,hvf,rf⟩:=hpw 0 _ rfl
 obtain⟨arr,rfl,hsz,hcp⟩:=rf.inv_fn
 have hvs':vs=#[.func (.func fid) #[] arr]:=by
  apply Array.ext_getElem?;intro i;match i with
  |0=>exact hvf
  |i+1=>rw [Array.getElem?_eq_none (by simp at hvs;omega),Array.getElem?_eq_none (by simp)]
 subst hvs'
 let w2:=(w.alloc (.cells #[.string .empty] 9)).alloc (.cells #[.int .i64 0] 27)
 have hs2:w2.heap.size=w.heap.size+2:=by show ((w.heap.push _).push _).size=_;simp
 have hb:Bel w.heap.size w w2:=Bel.of (((Go.RowKit.Below.refl _ _).alloc (Nat.le_refl _) _).alloc (by show w.heap.size≤(w.heap.push _).size;simp) _) (Nat.le_refl _)
 have hI2:=hI.more hb
 have m1:∀ b∈r1.R++r1.W,D b:=fun b hb=>by
  rcases List.mem_append.1 hb with h|h
  ·exact hD b (List.mem_append_left _ (List.mem_append_left _ h))
  ·exact hD b (List.mem_append_right _ (List.mem_append_left _ h))
 have k1:=c1 p1 g base D w2 arr hgl hI2 hsz hcp m1
 refine .inl ⟨zyW _ w,ziP w fid arr (R1:=fun v w'=>∃ g',VRel g' r1.v v∧Post g g' base H r1.h D r1.W w2 w') (k1.mono ?_) ?_⟩
 ·rintro e w' ⟨g',vc,rfl,hv1,hp1⟩
  exact⟨vc,rfl,g',hv1,hp1⟩
 rintro v w' ⟨g',hv1,hp1⟩
 have m2:∀ b∈r2.R++r2.W,D b∨H.next≤b:=fun b hb=>by
  by_cases hlt:b<H.next
  ·left;rcases List.mem_append.1 hb with h|h
   ·exact hD b (List.mem_append_left _ (List.mem_append_right _ (List.mem_filter.2 ⟨h,by simpa using hlt⟩)))
   ·exact hD b (List.mem_append_right _ (List.mem_append_right _ (List.mem_filter.2 ⟨h,by simpa using hlt⟩)))
  ·exact .inr (Nat.le_of_not_lt hlt)
 have k2:=c2 p2 g' base (fun b=>D b∨H.next≤b) w' #[v] (hgl.mono hp1.le.2) hp1.inv rfl (fun i x hx=>by
  match i,hx with
  |0,hx=>cases hx;exact⟨v,rfl,hv1⟩) m2
 refine(zd9 can178 k2).mono ?_
 rintro e w3 ⟨g2,vc,rfl,hv2,hp2⟩
 rw [hv]at hv2
 obtain⟨sb,rfl,hsb⟩:=hv2.inv_str
 have tot:=Post.trans hI2 hp1 hp2
 have fr:∀ c,w.heap.size≤c→c<w2.heap.size→w3.heap[c]? =w2.heap[c]? :=fun c h1 h2=>tot.frame c h2 fun b _ T e=>by have:=(hI.dom b T e).2.2;omega
 have b1:w3.heap[w.heap.size]? =some (.cells #[.string .empty] 9 (0,0)):=by rw [fr _ (Nat.le_refl _) (by omega)];show ((w.heap.push _).push _)[w.heap.size]? =_;rw [Array.getElem?_push_lt (by simp)];simp
 have b2:w3.heap[w.heap.size+1]? =some (.cells #[.int .i64 0] 27 (0,0)):=by rw [fr _ (by omega) (by omega)];show ((w.heap.push _).push _)[w.heap.size+1]? =_;rw [Array.getElem?_push,if_pos (by simp)]
 refine⟨sb,rfl,b1,b2,g2,_,rfl,?_,Post.around hI hb tot rfl ⟨rfl,Nat.le_refl _⟩ rfl ?_ ?_⟩
 ·refine VRel.mk_tup rfl fun i y hy=>?_
  match i,hy with
  |0,hy=>cases hy;exact⟨_,rfl,.str hsb⟩
  |1,hy=>cases hy;exact⟨_,rfl,.int _ _⟩
 ·show _≤(Array.push _ _).size
  simp [World.setCell]
 ·intro c hc ho
  exact zmL w3 w.heap.size _ _ _ c hc (by omega) (by omega)
def spec1(rec:FuncId→List V→Hp→Option AR)(f:FuncId)(args:List V)(H:Hp):Option AR:=
 match Nat.beq f 146,args with
 |true,[.fn fid caps]=>
  match rec fid caps H with
  |some r1=>
   match rec 178 [r1.v] r1.h with
   |some r2=>
    match r2.v with
    | .str s=>some ⟨True,.tup [.str s,.int .i64 0],r2.h,r1.R++r2.R.filter (· <H.next),r1.W++r2.W.filter (· <H.next)⟩
    |_=>none
   |none=>none
  |none=>none
 |true,_=>none
 |false,_=>
  match Nat.beq f 247,args with
  |true,[x]=>some ⟨True,x,H,[],[]⟩
  |_,_=>none
theorem zoM(x:V)(H:Hp):HCall prog 247 [x] H ⟨True,x,H,[],[]⟩:=by
 refine⟨fun _=>Stat.refl H,fun _ g base D w vs hgl hI hvs hpw hD=>?_⟩;obtain⟨v,hv,rv⟩:=hpw 0 _ rfl;have hvs':vs=#[v]:=by
  apply Array.ext_getElem?;intro i;match i with
  |0=>exact hv
  |i+1=>rw [Array.getElem?_eq_none (by simp at hvs;omega),Array.getElem?_eq_none (by simp)]
 subst hvs';refine .inr ⟨v,w,?_,g,v,rfl,rv,Post.refl hI rfl rfl (.refl _) rfl⟩;rw [run_callFunc_extern (fn:=Tryz.f247) func247 (by kernel_rfl) rfl rfl (e:=Go.Extern.AbiNoEscape.same) (by kernel_rfl),Lib.run_noEscape];rfl
theorem zab {E:ECfg}(h:E.spec=spec1):zgK prog E:=by
 intro rec hrec f args H r e;rw [h]at e;unfold spec1 at e;split at e
 ·rename_i fid caps hf;have hf':=Nat.eq_of_beq_eq_true hf;subst hf';split at e;rotate_left;·cases e
  rename_i r1 h1;split at e;rotate_left;·cases e
  rename_i r2 h2;split at e
  ·rename_i s hs;cases e;exact⟨trivial,zvd (hrec _ _ _ _ h1) (hrec _ _ _ _ h2) hs⟩
  ·cases e
 ·cases e
 ·split at e
  ·rename_i x hf;have hf':=Nat.eq_of_beq_eq_true hf;subst hf';cases e;exact⟨trivial,zoM x H⟩
  ·cases e
end Go.Proofs

namespace Go.Pl
theorem zyv {U V v1 t P:Nat}(h1:0<v1)(hV:v1*P≤V)(hU:U<(t+1)*P):U / V≤t / v1:=by rw [Nat.le_div_iff_mul_le h1];have h2:U / V*V≤U:=Nat.div_mul_le_self U V;have h3:U / V*v1*P≤U:=Nat.le_trans (by rw [Nat.mul_assoc];exact Nat.mul_le_mul_left _ hV) h2;have h4:U / V*v1*P<(t+1)*P:=Nat.lt_of_le_of_lt h3 hU;have:=Nat.lt_of_mul_lt_mul_right h4;exact Nat.le_of_lt_succ this
theorem dig_dec {U V v1 v2 u2 t q r P:Nat}(hV:(v1*1000000000+v2)*P≤V)(hU:U<(t*1000000000+u2+1)*P)(he:q*v1+r=t)(h:r*1000000000+u2<q*v2):U / V<q:=by
 have hq:t*1000000000+u2+1≤q*(v1*1000000000+v2):=by rw [Nat.mul_add, ←Nat.mul_assoc, ←he,Nat.add_mul];omega
 have h1:U<q*V:=calc
  U<(t*1000000000+u2+1)*P:=hU
  _≤q*(v1*1000000000+v2)*P:=Nat.mul_le_mul_right _ hq
  _=q*((v1*1000000000+v2)*P):=Nat.mul_assoc ..
  _≤q*V:=Nat.mul_le_mul_left _ hV
 have hVp:0<V:=by
  rcases Nat.eq_zero_or_pos V with h0|h0
  ·subst h0;simp at h1
  ·exact h0
 exact(Nat.div_lt_iff_lt_mul hVp).2 h1
theorem dig_far {U V v1 t q r P:Nat}(hV:V≤(v1+1)*P)(hU:t*P≤U)(he:q*v1+r=t)(h:q≤r):q*V≤U:=calc
 q*V≤q*((v1+1)*P):=Nat.mul_le_mul_left _ hV
 _=(q*v1+q)*P:=by rw [←Nat.mul_assoc,Nat.mul_add,Nat.mul_one]
 _≤t*P:=Nat.mul_le_mul_right _ (by omega)
 _≤U:=hU
theorem dig_near {U V v1 v2 u2 t q r P:Nat}(hV:V≤(v1*1000000000+v2+1)*P)(hU:(t*1000000000+u2)*P≤U)(he:q*v1+r=t)(h:q*v2≤r*1000000000+u2)
 (hq:q≤v1*1000000000+v2+1):(q - 1)*V≤U:=by
 cases q with
 |zero=>simp
 |succ s=>
  rw [Nat.add_sub_cancel]
  refine Nat.le_trans (Nat.mul_le_mul_left _ hV) (Nat.le_trans ?_ hU)
  rw [←Nat.mul_assoc]
  refine Nat.mul_le_mul_right _ ?_
  have e1:s*(v1*1000000000+v2+1)=s*v1*1000000000+s*v2+s:=by rw [Nat.mul_add,Nat.mul_add,Nat.mul_one,Nat.mul_assoc]
  rw [e1]
  rw [Nat.add_mul,Nat.one_mul]at he h
  generalize s*v1=a at*
  generalize s*v2=b at*
  omega
theorem zaB(l:List Nat)(k:Nat):valL (l.drop k)=l.getD k 0+1000000000*valL (l.drop (k+1)):=by
 by_cases h:k<l.length
 ·rw [List.drop_eq_getElem_cons h,valL];simp [List.getD_eq_getElem?_getD,h]
 ·rw [List.drop_of_length_le (by omega),List.drop_of_length_le (by omega),zaZ _ _ _ (by omega)];simp [valL]
theorem zks {l:List Nat}(h:okL l)(k:Nat):okL (l.take k):=fun d hd=>h d (List.mem_of_mem_take hd)
theorem zkt {l:List Nat}(h:okL l)(k:Nat):okL (l.drop k):=fun d hd=>h d (List.mem_of_mem_drop hd)
theorem zjP(l:List Nat)(k:Nat)(hk:k≤l.length):valL l=valL (l.take k)+1000000000 ^ k*valL (l.drop k):=by
 conv=>lhs;rw [←List.take_append_drop k l]
 rw [zaF];simp [Nat.min_eq_left hk]
theorem zdg {l:List Nat}(h:okL l)(k:Nat)(hk:k≤l.length):valL (l.drop k)*1000000000 ^ k≤valL l∧valL l<(valL (l.drop k)+1)*1000000000 ^ k:=by
 have h1:=zjP l k hk;have h2:valL (l.take k)<1000000000 ^ k:=by have:=valL_lt (zks h k);rw [List.length_take,Nat.min_eq_left hk]at this;exact this
 generalize (1000000000:Nat) ^ k=p at*;generalize valL (l.drop k)=x at*;generalize valL (l.take k)=y at*;rw [h1,Nat.mul_comm p x,Nat.add_mul];omega
theorem zb1 {l:List Nat}{k:Nat}(h:l.length≤k):valL (l.drop k)=0:=by rw [List.drop_of_length_le h];rfl
def zgd(u v:List Nat)(q r:Nat):Prop:=
 q*v.getD (v.length - 1) 0+r=u.getD v.length 0*1000000000+u.getD (v.length - 1) 0∧valL u / valL v≤q
structure DigOK(u v:List Nat):Prop where
 ou:okL u
 ov:okL v
 len:u.length=v.length+1
 pos:0<v.length
 top:0<v.getD (v.length - 1) 0
 less:valL u<valL v*1000000000
theorem DigOK.box1 {u v:List Nat}(h:DigOK u v):v.getD (v.length - 1) 0*1000000000 ^ (v.length - 1)≤valL v∧valL v≤(v.getD (v.length - 1) 0+1)*1000000000 ^ (v.length - 1)∧
 (u.getD v.length 0*1000000000+u.getD (v.length - 1) 0)*1000000000 ^ (v.length - 1)≤valL u∧valL u<(u.getD v.length 0*1000000000+u.getD (v.length - 1) 0+1)*1000000000 ^ (v.length - 1):=by
 have hp:=h.pos
 have hl:=h.len
 have z1:valL (v.drop (v.length - 1+1))=0:=zb1 (by omega)
 have z2:valL (u.drop (v.length+1))=0:=zb1 (by omega)
 have e1:valL (v.drop (v.length - 1))=v.getD (v.length - 1) 0:=by rw [zaB,z1];omega
 have e2:valL (u.drop (v.length - 1))=u.getD v.length 0*1000000000+u.getD (v.length - 1) 0:=by rw [zaB,show v.length - 1+1=v.length by omega,zaB u v.length,z2];omega
 have b1:=zdg h.ov (v.length - 1) (by omega)
 have b2:=zdg h.ou (v.length - 1) (by omega)
 rw [e1]at b1
 rw [e2]at b2
 exact⟨b1.1,Nat.le_of_lt b1.2,b2.1,b2.2⟩
theorem DigOK.box2 {u v:List Nat}(h:DigOK u v)(h2:1<v.length):(v.getD (v.length - 1) 0*1000000000+v.getD (v.length - 2) 0)*1000000000 ^ (v.length - 2)≤valL v∧
 valL v≤(v.getD (v.length - 1) 0*1000000000+v.getD (v.length - 2) 0+1)*1000000000 ^ (v.length - 2)∧
 ((u.getD v.length 0*1000000000+u.getD (v.length - 1) 0)*1000000000+u.getD (v.length - 2) 0)*1000000000 ^ (v.length - 2)≤valL u∧
 valL u<((u.getD v.length 0*1000000000+u.getD (v.length - 1) 0)*1000000000+u.getD (v.length - 2) 0+1)*1000000000 ^ (v.length - 2):=by
 have hl:=h.len
 have z1:valL (v.drop (v.length - 1+1))=0:=zb1 (by omega)
 have z2:valL (u.drop (v.length+1))=0:=zb1 (by omega)
 have e1:valL (v.drop (v.length - 2))=v.getD (v.length - 1) 0*1000000000+v.getD (v.length - 2) 0:=by rw [zaB,show v.length - 2+1=v.length - 1 by omega,zaB v (v.length - 1),z1];omega
 have e2:valL (u.drop (v.length - 2))=(u.getD v.length 0*1000000000+u.getD (v.length - 1) 0)*1000000000+u.getD (v.length - 2) 0:=by rw [zaB,show v.length - 2+1=v.length - 1 by omega,zaB u (v.length - 1),show v.length - 1+1=v.length by omega,zaB u v.length,z2];omega
 have b1:=zdg h.ov (v.length - 2) (by omega)
 have b2:=zdg h.ou (v.length - 2) (by omega)
 rw [e1]at b1
 rw [e2]at b2
 exact⟨b1.1,Nat.le_of_lt b1.2,b2.1,b2.2⟩
theorem DigOK.vpos {u v:List Nat}(h:DigOK u v):0<valL v:=by have:=h.box1.1;have h1:=h.top;have h2:0<1000000000 ^ (v.length - 1):=Nat.pow_pos (by omega);generalize (1000000000:Nat) ^ (v.length - 1)=p at*;have:=Nat.mul_pos h1 h2;omega
theorem DigOK.qlt {u v:List Nat}(h:DigOK u v):valL u / valL v<1000000000:=
 (Nat.div_lt_iff_lt_mul h.vpos).2 (by rw [Nat.mul_comm];exact h.less)
theorem zm4 {u v:List Nat}(h:DigOK u v):zgd u v ((u.getD v.length 0*1000000000+u.getD (v.length - 1) 0) / v.getD (v.length - 1) 0) ((u.getD v.length 0*1000000000+u.getD (v.length - 1) 0) % v.getD (v.length - 1) 0):=by obtain⟨b1,_,_,b4⟩:=h.box1;refine⟨?_,zyv h.top b1 b4⟩;rw [Nat.mul_comm];exact Nat.div_add_mod _ _
theorem zt2 {u v:List Nat}{q r:Nat}(h:DigOK u v)(hi:zgd u v q r)(hq:1000000000≤q):zgd u v (q - 1) (r+v.getD (v.length - 1) 0):=by obtain⟨h1,h2⟩:=hi;have h3:=h.qlt;refine⟨?_,by omega⟩;rw [←h1];obtain⟨s,rfl⟩:∃ s,q=s+1:=⟨q - 1,by omega⟩;rw [Nat.add_sub_cancel,Nat.add_mul,Nat.one_mul];omega
theorem zpm {u v:List Nat}{q r:Nat}(h:DigOK u v)(hi:zgd u v q r)(hn:1<v.length)(hc:r*1000000000+u.getD (v.length - 2) 0<q*v.getD (v.length - 2) 0):zgd u v (q - 1) (r+v.getD (v.length - 1) 0):=by obtain⟨h1,h2⟩:=hi;obtain⟨b1,_,_,b4⟩:=h.box2 hn;have h3:=dig_dec b1 b4 h1 hc;have hq0:0<q:=Nat.lt_of_le_of_lt (Nat.zero_le _) h3;refine⟨?_,Nat.le_sub_one_of_lt h3⟩;rw [←h1];obtain⟨s,rfl⟩:∃ s,q=s+1:=⟨q - 1,by omega⟩;rw [Nat.add_sub_cancel,Nat.add_mul,Nat.one_mul];omega
theorem zc8 {u v:List Nat}{q r:Nat}(h:DigOK u v)(hi:zgd u v q r)(hq:q<1000000000)
 (hc:v.length=1∨1000000000≤r∨q*v.getD (v.length - 2) 0≤r*1000000000+u.getD (v.length - 2) 0):(q - 1)*valL v≤valL u:=by
 obtain⟨h1,h2⟩:=hi
 obtain⟨b1,b2,b3,b4⟩:=h.box1
 have weak:q*valL v≤valL u→(q - 1)*valL v≤valL u:=fun e=>Nat.le_trans (Nat.mul_le_mul_right _ (by omega)) e
 by_cases hn:v.length=1
 ·apply weak
  simp only [hn,Nat.sub_self,Nat.pow_zero,Nat.mul_one]at b3 h1
  have z:valL (v.drop (0+1))=0:=zb1 (by omega)
  have e:valL v=v.getD 0 0:=by have h0:=zaB v 0;rw [z,List.drop_zero]at h0;omega
  rw [e]
  omega
 ·rcases hc with hc|hc|hc
  ·exact absurd hc hn
  ·exact weak (dig_far b2 b3 h1 (by omega))
  ·have hp:=h.pos
   obtain⟨c1,c2,c3,c4⟩:=h.box2 (by omega)
   refine dig_near c2 c3 h1 hc ?_
   have:=h.top
   omega
def ziU(q:Nat)(u v:List Nat)(i:Nat)(l:List Nat)(b c:Nat):Prop:=
 l.length=u.length∧okL l∧(∀ j,i≤j→l.getD j 0=u.getD j 0)∧valL (l.take i)+q*valL (v.take i)=valL (u.take i)+1000000000 ^ i*(b+c)∧b≤1∧c<1000000000
def subP(q:Nat)(v:List Nat)(i c:Nat):Nat:=c+q*v.getD i 0
def subD(l:List Nat)(i p b:Nat):Nat:=l.getD i 0+1000000000 - p % 1000000000 - b
theorem zvu {q:Nat}{v:List Nat}{i c:Nat}(hq:q<1000000000)(ov:okL v)(hc:c<1000000000):subP q v i c<1000000000000000000:=by have h2:=getD_lt ov i;have h4:q*v.getD i 0≤999999999*999999999:=Nat.mul_le_mul (by omega) (by omega);unfold subP;generalize q*v.getD i 0=x at*;omega
theorem zqp {l:List Nat}{i d:Nat}(hi:i<l.length):valL ((l.set i d).take (i+1))=valL (l.take i)+1000000000 ^ i*d:=by rw [zad,List.take_set_of_le (Nat.le_refl _)];congr 2;rw [List.getD_eq_getElem?_getD,List.getElem?_set_self hi];rfl
theorem sub_step {q:Nat}{u v:List Nat}{i:Nat}{l:List Nat}{b c:Nat}(hq:q<1000000000)(ov:okL v)(hi:i<u.length)(h:ziU q u v i l b c):
 ziU q u v (i+1) (l.set i (subD l i (subP q v i c) b % 1000000000)) (1 - subD l i (subP q v i c) b / 1000000000) (subP q v i c / 1000000000):=by
 obtain⟨h1,h2,h3,h4,h5,h6⟩:=h
 have hp:=zvu (i:=i) hq ov h6
 have hl:=getD_lt h2 i
 have hli:l.getD i 0=u.getD i 0:=h3 i (Nat.le_refl _)
 refine⟨by simpa using h1,zeD h2 (Nat.mod_lt _ (by omega)),fun j hj=>by rw [zbz (by omega)];exact h3 j (by omega),?_,by omega,by omega⟩
 rw [zqp (by omega),zad v,zad u,Nat.mul_add q, ←hli,Nat.pow_succ]
 have hsp:subP q v i c=c+q*v.getD i 0:=rfl
 have e1:q*(1000000000 ^ i*v.getD i 0)=1000000000 ^ i*(q*v.getD i 0):=by rw [Nat.mul_left_comm]
 rw [e1]
 have key:subD l i (subP q v i c) b % 1000000000+q*v.getD i 0+(b+c)=l.getD i 0+1000000000*(1 - subD l i (subP q v i c) b / 1000000000+subP q v i c / 1000000000):=by unfold subD;generalize subP q v i c=p at*;generalize q*v.getD i 0=x at*;generalize l.getD i 0=y at*;omega
 have key2:(1000000000:Nat) ^ i*(subD l i (subP q v i c) b % 1000000000+q*v.getD i 0+(b+c))=1000000000 ^ i*(l.getD i 0+1000000000*(1 - subD l i (subP q v i c) b / 1000000000+subP q v i c / 1000000000)):=by rw [key]
 rw [Nat.mul_add,Nat.mul_add,Nat.mul_add _ (l.getD i 0), ←Nat.mul_assoc _ 1000000000]at key2
 generalize (1000000000:Nat) ^ i*(subD l i (subP q v i c) b % 1000000000)=a1 at*
 generalize (1000000000:Nat) ^ i*(q*v.getD i 0)=a2 at*
 generalize (1000000000:Nat) ^ i*(b+c)=a3 at*
 generalize (1000000000:Nat) ^ i*l.getD i 0=a4 at*
 generalize (1000000000:Nat) ^ i*1000000000*(1 - subD l i (subP q v i c) b / 1000000000+subP q v i c / 1000000000)=a5 at*
 generalize valL (l.take i)=a6 at*
 generalize q*valL (v.take i)=a7 at*
 generalize valL (u.take i)=a8 at*
 omega
theorem zvs(q:Nat)(u v:List Nat)(ou:okL u):ziU q u v 0 u 0 0:=
 ⟨rfl,ou,fun _ _=>rfl,by simp [valL],by omega,by omega⟩
theorem sub_end {q:Nat}{u v l:List Nat}{b c:Nat}(hq:q<1000000000)(h:DigOK u v)(hi:ziU q u v u.length l b c)(hc0:c=0):valL l+q*valL v=valL u+1000000000 ^ u.length*b:=by obtain⟨h1,h2,h3,h4,h5,h6⟩:=hi;have hl:=h.len;rw [←h1,List.take_length]at h4;rw [h1,List.take_length,List.take_of_length_le (l:=v) (by omega),hc0,Nat.add_zero]at h4;exact h4
theorem zvt {q:Nat}{u v l:List Nat}{b c:Nat}(hi:ziU q u v v.length l b c):subP q v v.length c / 1000000000=0:=by obtain⟨h1,h2,h3,h4,h5,h6⟩:=hi;unfold subP;rw [zaZ v v.length 0 (Nat.le_refl _),Nat.mul_zero,Nat.add_zero];omega
theorem dig_done {q:Nat}{u v l:List Nat}(h:DigOK u v)(hq:valL u / valL v≤q)(he:valL l+q*valL v=valL u):q=valL u / valL v∧valL l=valL u % valL v:=by have hv:=h.vpos;have h1:q≤valL u / valL v:=(Nat.le_div_iff_mul_le hv).2 (by omega);obtain rfl:q=valL u / valL v:=Nat.le_antisymm h1 hq;refine⟨rfl,?_⟩;have:=Nat.div_add_mod (valL u) (valL v);rw [Nat.mul_comm]at this;omega
theorem dig_over {q:Nat}{u v l:List Nat}(h:DigOK u v)(ol:okL l)(hl:l.length=u.length)(hq:valL u / valL v≤q)(hq1:(q - 1)*valL v≤valL u)(he:valL l+q*valL v=valL u+1000000000 ^ u.length):
 q=valL u / valL v+1∧valL l+valL v=valL u % valL v+1000000000 ^ u.length:=by
 have hv:=h.vpos
 have h1:q - 1≤valL u / valL v:=(Nat.le_div_iff_mul_le hv).2 hq1
 have hlt:=valL_lt ol
 rw [hl]at hlt
 have h2:q≠valL u / valL v:=by intro e;have:=Nat.div_mul_le_self (valL u) (valL v);rw [←e]at this;omega
 have e:q=valL u / valL v+1:=by omega
 refine⟨e,?_⟩
 have:=Nat.div_add_mod (valL u) (valL v)
 rw [Nat.mul_comm]at this
 rw [e,Nat.add_mul,Nat.one_mul]at he
 omega
def zf0(u v:List Nat)(i:Nat)(l:List Nat)(c:Nat):Prop:=
 l.length=u.length∧okL l∧(∀ j,i≤j→l.getD j 0=u.getD j 0)∧valL (l.take i)+1000000000 ^ i*c=valL (u.take i)+valL (v.take i)∧c≤1
def ziK(l v:List Nat)(i c:Nat):Nat:=l.getD i 0+c+v.getD i 0
theorem zAk {u v:List Nat}{i:Nat}{l:List Nat}{c:Nat}(ov:okL v)(hi:i<u.length)(h:zf0 u v i l c):zf0 u v (i+1) (l.set i (ziK l v i c % 1000000000)) (ziK l v i c / 1000000000):=by
 obtain⟨h1,h2,h3,h4,h5⟩:=h;have hl:=getD_lt h2 i;have hv:=getD_lt ov i;have hli:l.getD i 0=u.getD i 0:=h3 i (Nat.le_refl _);have hs:ziK l v i c=l.getD i 0+c+v.getD i 0:=rfl;refine⟨by simpa using h1,zeD h2 (Nat.mod_lt _ (by omega)),fun j hj=>by rw [zbz (by omega)];exact h3 j (by omega),?_,by omega⟩;rw [zqp (by omega),zad v,zad u, ←hli,Nat.pow_succ];have hsp:=split_mul (1000000000 ^ i) (ziK l v i c);have hexp:1000000000 ^ i*ziK l v i c=1000000000 ^ i*l.getD i 0+1000000000 ^ i*c+1000000000 ^ i*v.getD i 0:=by rw [hs,Nat.mul_add,Nat.mul_add]
 generalize (1000000000:Nat) ^ i*(ziK l v i c % 1000000000)=a1 at*;generalize (1000000000:Nat) ^ i*1000000000*(ziK l v i c / 1000000000)=a2 at*;generalize (1000000000:Nat) ^ i*ziK l v i c=a3 at*;generalize (1000000000:Nat) ^ i*l.getD i 0=a4 at*;generalize (1000000000:Nat) ^ i*c=a5 at*;generalize (1000000000:Nat) ^ i*v.getD i 0=a6 at*;omega
theorem zuM(u v:List Nat)(ou:okL u):zf0 u v 0 u 0:=⟨rfl,ou,fun _ _=>rfl,by simp [valL],by omega⟩
theorem back_end {u v l:List Nat}{c r:Nat}(hv:v.length≤u.length)(hi:zf0 u v u.length l c)(hr:r<1000000000 ^ u.length)(he:valL u+valL v=r+1000000000 ^ u.length):valL l=r:=by
 obtain⟨h1,h2,h3,h4,h5⟩:=hi;have hlt:=valL_lt h2;rw [h1]at hlt;rw [List.take_length,List.take_of_length_le (l:=v) hv,List.take_of_length_le (by omega)]at h4;generalize (1000000000:Nat) ^ u.length=p at*;have hc:c=0∨c=1:=by omega
 rcases hc with rfl|rfl<;>omega
def digs:Nat→Nat→List Nat
 |0,_=>[]
 |k+1,x=>x % 1000000000::digs k (x / 1000000000)
theorem zfW:∀ {l:List Nat},okL l→l=digs l.length (valL l)
 |[],_=>rfl
 |d::l,h=>by obtain⟨h1,h2⟩:=okL_cons.1 h;have ih:=zfW h2;show d::l=valL (d::l) % 1000000000::digs l.length (valL (d::l) / 1000000000);rw [valL];rw [show (d+1000000000*valL l) % 1000000000=d by omega,show (d+1000000000*valL l) / 1000000000=valL l by omega, ←ih]
theorem zdz:∀(k x:Nat),(digs k x).length=k
 |0,_=>rfl
 |k+1,x=>by simp [digs,zdz k]
theorem zk8:∀(k x:Nat),okL (digs k x)
 |0,_=>fun _ h=>by cases h
 |k+1,x=>okL_cons.2 ⟨Nat.mod_lt _ (by omega),zk8 k _⟩
theorem zk7:∀(k x:Nat),x<1000000000 ^ k→valL (digs k x)=x
 |0,x,h=>by simp at h;subst h;rfl
 |k+1,x,h=>by
  have h':x / 1000000000<1000000000 ^ k:=by rw [Nat.pow_succ]at h;exact(Nat.div_lt_iff_lt_mul (by omega)).2 h
  rw [digs,valL,zk7 k _ h'];omega
end Go.Pl
