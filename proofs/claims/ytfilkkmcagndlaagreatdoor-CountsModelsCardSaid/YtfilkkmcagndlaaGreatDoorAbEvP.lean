/- A contract out of a run of the machine: scalar results. -/
import Derived.Test.YtfilkkmcagndlaaGreatDoorAbEvFn
import Derived.Test.YtfilkkmcagndlaaGreatDoorAbMapS
import Derived.Tactics
import Derived.Tactics2
import Derived.Defers
import Derived.Recover
import Derived.Laws.Pointers
import Derived.KernelRfl
import Derived.Laws.Externs
import Derived.Lib.Builder
import Derived.Test.YtfilkkmcagndlaaGreatDoorAbEvCode
import Derived.Test.YtfilkkmcagndlaaGreatDoorQRat2
set_option linter.all false
namespace Go.Ab
variable {P:Program}
theorem PCall.ofH {f:FuncId}{args:List V}{r:AR}(h:HCall P f args ⟨[],0⟩ r)(hp:r.pre)(_hR:r.R=[])(hW:r.W=[])(hs:zaD r.v=true)(hpure:∀ x∈args,Pure x):PCall P f args (.ret r.v):=by
 obtain⟨_,hrun⟩:=h;intro g w vs hgl hfrz hvs hpw;let g0:G:=⟨fun _=>none,g.phi⟩
 have hinv:Inv g0 w.heap.size ⟨[],0⟩ (fun _=>True) w:=
  ⟨hfrz,fun b T e=>(by cases e),fun b x e=>(by cases e),fun b x _ e=>(by cases e),fun b b' x x' T T' _ _ e=>(by cases e),Nat.le_refl _⟩
 have hpw0:PW g0 args (fun i=>vs[i]?):=fun i x hx=>by obtain⟨u,hu,ru⟩:=hpw i x hx;exact⟨u,hu,VRel.pure (g:=g) (g':=g0) (fun c a e=>e) ru (hpure x (List.mem_of_getElem? hx))⟩
 refine(hrun hp g0 w.heap.size (fun _=>True) w vs (hgl.mono (fun c a e=>e)) hinv hvs hpw0 (fun _ _=>trivial)).mono fun e w' q=>?_;obtain⟨g',vc,rfl,hv,p⟩:=q;refine⟨fun _=>none,vc,fun c a e=>(by cases e),⟨p.os,p.tape,p.output,p.size,fun k hk=>p.frame k hk fun b hb=>by rw [hW]at hb;cases hb⟩,rfl,zeL hs hv⟩
noncomputable def eAns(E:ECfg)(P:Program)(n:Nat)(f:FuncId)(args:List V):Option V:=
 match eFn E P n f args ⟨[],0⟩with
 |some r=>bif zaD r.v&&r.R.isEmpty&&r.W.isEmpty then some r.v else none
 |none=>none
theorem zpz {E:ECfg}(hm:P.follows .mixedOrders=true)(hΓ:∀ f args r,E.Γ f args=some r→PCall P f args r)(hcan:∀ f,E.can f=true→zi P f)(hsp:zhl P E)
 {n:Nat} {f:FuncId} {args:List V} {v:V} (hpure:∀ x∈args,Pure x) (h:eAns E P n f args=some v):PCall P f args (.ret v):=by
 unfold eAns at h
 split at h
 rotate_left;·cases h
 rename_i r hr
 cases hs:(zaD r.v&&r.R.isEmpty&&r.W.isEmpty)with
 |false=>rw [hs]at h;cases h
 |true=>
  rw [hs]at h
  cases h
  simp only [Bool.and_eq_true,List.isEmpty_iff]at hs
  obtain⟨h1,h2⟩:=eFn_ok hm hΓ hcan hsp n f args _ r hr
  exact PCall.ofH h2 h1 hs.1.2 hs.2 hs.1.1 hpure
def canB(P:Program)(f:FuncId):Bool:=
 match P.funcs[f]? with
 |some fn=>fn.body.isSome&& !(fn.name== "runtime.NumGoroutine")
 |none=>false
theorem canB_ok {f:FuncId}(h:canB P f=true):zi P f:=by
 unfold canB at h;split at h;rotate_left;·cases h
 rename_i fn hf;simp only [Bool.and_eq_true,Bool.not_eq_true',beq_eq_false_iff_ne,ne_eq]at h;obtain⟨hb,hn⟩:=h;intro a w;cases hbb:fn.body with
 |none=>rw [hbb]at hb;cases hb
 |some c=>simp [callFunc,hf,hn,hbb]
def canL(l:List Nat)(n:Nat)(f:FuncId):Bool:=Nat.ble f n&& !(l.contains f)
theorem zaX {l:List Nat}{n:Nat}(h:((List.range (n+1)).all fun f=>l.contains f||canB P f)=true)(f:FuncId)(hf:canL l n f=true):zi P f:=by simp only [canL,Bool.and_eq_true,Bool.not_eq_true']at hf;have:=List.all_eq_true.1 h f (by simp;exact Nat.lt_succ_of_le (Nat.le_of_ble_eq_true hf.1));rw [hf.2,Bool.false_or]at this;exact canB_ok this
end Go.Ab

namespace Go.Proofs
open Go.Ab
theorem assert_nil(w:World):(Instr.typeAssert .nilIface 20 105 true).run Tryz.prog w=.ok (.tuple #[.agg #[],.bool false]) w:=by
 have h1:Tryz.prog.underlying 105=some (.struct #[]):=by kernel_rfl
 have h2:zaU Tryz.prog 105=some (.agg #[]):=by kernel_rfl
 simp [Instr.typeAssert,run_underlying h1,zbn h2]
set_option maxRecDepth 100000 in
theorem catch_idle(p q:Value)(w:World):
 CallsD Tryz.prog 155 #[p,q] .returning w fun e u' w'=>e=.returned (.tuple #[])∧u'=.returning∧w'=w.alloc (.cells #[] 105):=by
 refine callsD_of_wpS Tryz.func155 rfl fun c₀ cs hu=>?_
 apply wpS_seq
 apply wpS_region
 simp [wpOpsS,go_sem,recoverD,hu,Tryz.ntmps155,Exit.thenS,assert_nil]
 apply wpS_seq
 apply wpS_region
 simp [wpOpsS,go_sem,Exit.thenS]
 refine wpS_cond (t:=false) (by simp [Act.eval,Array.replicate]) ?_
 simp only [Bool.false_eq_true,if_false]
 refine wpS_of_wp (wp_skip ?_)
 cases c₀
 simp_all [bodyPostS,results,Tryz.results155]
theorem ziL {P:Program}{o:Oper}{a:Act}{next:Act→World→Prop}{Q:Exit→Act→World→Prop}{f:FuncId}{vs:Array Value}{w:World}{R:Ending→World→Prop}(h:GoCall P f vs w R)
 (hr:∀ e w',R e w'→match e with| .returned v=>next (a.put o.dst v) w'| .panicked ch=>Q (.panic ch) a w'| .outgrown=>False):Oper.upon P o a next Q ((callFunc f vs).run P w):=by
 rcases h with⟨h1,h2⟩|⟨v,w',h1,h2⟩
 ·rw [h1]
  refine h2.mono fun e w' q=>?_
  have:=hr e w' q
  cases e with
  |returned v=>exact this
  |panicked ch=>exact this
  |outgrown=>exact this.elim
 ·rw [h1]
  exact hr _ _ h2
set_option maxRecDepth 100000 in
theorem zjk(w:World)(fid:FuncId)(caps:Array Value){R1:Value→World→Prop}{R:Ending→World→Prop}
 (h1:GoCall Tryz.prog fid caps ((w.alloc (.cells #[.string .empty] 9)).alloc (.cells #[.int .i64 0] 34)) fun e w'=>∃ v,e=.returned v∧R1 v w')
 (h3:∀ v w',R1 v w'→Calls Tryz.prog 156 #[v] w' fun e w''=>∃ s,e=.returned (.string s)∧
  w''.heap[w.heap.size]? =some (.cells #[.string .empty] 9 (0,0))∧w''.heap[w.heap.size+1]? =some (.cells #[.int .i64 0] 34 (0,0))∧
  R (.returned (.tuple #[.string s,.int .i64 0])) (((w''.setCell ⟨w.heap.size,0,none⟩ (.string s)).setCell ⟨w.heap.size+1,0,none⟩ (.int .i64 0)).alloc (.cells #[] 105))):
 Calls Tryz.prog 125 #[.func (.func fid) #[] caps] w R:=by
 have hmf:∀(fn:Fn) (first cap:Array Value) (w:World),(Instr.makeFunc fn first cap).run Tryz.prog w=.ok (.func fn first cap) w:=fun _ _ _ _=>rfl
 go_enter_defers Tryz.func125,Tryz.ntmps125
 go_wp2
 refine ziL h1 ?_
 rintro e w1 ⟨v,rfl,hR1⟩
 have h3':Calls Tryz.prog 156 #[v] w1 fun e w2=>∃ s,e=.returned (.string s)∧w2.cell? ⟨w.heap.size,0,none⟩=some (.string .empty)∧w2.frozen? ⟨w.heap.size,0,none⟩=false∧
  (w2.setCell ⟨w.heap.size,0,none⟩ (.string s)).cell? ⟨w.heap.size+1,0,none⟩=some (.int .i64 0)∧(w2.setCell ⟨w.heap.size,0,none⟩ (.string s)).frozen? ⟨w.heap.size+1,0,none⟩=false∧
  ((w2.setCell ⟨w.heap.size,0,none⟩ (.string s)).setCell ⟨w.heap.size+1,0,none⟩ (.int .i64 0)).heap[w.heap.size]? =some (.cells #[.string s] 9 (0,0))∧
  ((w2.setCell ⟨w.heap.size,0,none⟩ (.string s)).setCell ⟨w.heap.size+1,0,none⟩ (.int .i64 0)).heap[w.heap.size+1]? =some (.cells #[.int .i64 0] 34 (0,0))∧
  R (.returned (.tuple #[.string s,.int .i64 0])) (((w2.setCell ⟨w.heap.size,0,none⟩ (.string s)).setCell ⟨w.heap.size+1,0,none⟩ (.int .i64 0)).alloc (.cells #[] 105)):=by
  refine(h3 v w1 hR1).mono ?_
  rintro e w2 ⟨s,rfl,hb1,hb2,hR⟩
  refine⟨s,rfl,by simp [World.cell?,hb1],by simp [World.frozen?,hb1],by simp [World.cell?,World.setCell,Array.getElem?_modify,hb2],by simp [World.frozen?,World.setCell,Array.getElem?_modify,hb2],
   by simp [World.setCell,Array.getElem?_modify,hb1],by simp [World.setCell,Array.getElem?_modify,hb2],hR⟩
 go_wp2_with (go_at_call 156;refine h3'.mono ?_;rintro e w2 ⟨s,rfl,hc1,hf1,hc2,hf2,hb1,hb2,hR⟩)
 generalize ((w2.setCell ⟨w.heap.size,0,none⟩ (.string s)).setCell ⟨w.heap.size+1,0,none⟩ (.int .i64 0))=W at hb1 hb2 hR ⊢
 refine leaves_cons (f:=155) (args:=#[.pointer (some ⟨w.heap.size,0,none⟩),.pointer (some ⟨w.heap.size+1,0,none⟩)]) (by simp) (by simp [go_sem]) ?_
 refine(catch_idle _ _ W).mono ?_
 rintro e u' w'' ⟨rfl,rfl,rfl⟩
 have old:∀(c:Nat) (o:Obj),W.heap[c]? =some o→(W.alloc (.cells #[] 105)).heap[c]? =some o:=by intro c o h;have hlt:c<W.heap.size:=(Array.getElem?_eq_some_iff.1 h).1;show (W.heap.push _)[c]? =_;rw [Array.getElem?_push_lt hlt, ←h,Array.getElem?_eq_getElem hlt]
 have e1:(W.alloc (.cells #[] 105)).cell? ⟨w.heap.size,0,none⟩=some (.string s):=by simp [World.cell?,old _ _ hb1]
 have e2:(W.alloc (.cells #[] 105)).cell? ⟨w.heap.size+1,0,none⟩=some (.int .i64 0):=by simp [World.cell?,old _ _ hb2]
 simp [Leaves,settle,results,Tryz.results125,go_sem,e1,e2]
 exact hR
theorem zeF {P:Program}{f:FuncId}{vs:Array Value}{w:World}{R:Ending→World→Prop}(hc:zi P f)(h:GoCall P f vs w R):Calls P f vs w R:=by
 rcases h with⟨_,h⟩|⟨v,w',h1,_⟩
 ·exact h
 ·rw [hc vs w]at h1;cases h1
theorem zyY:zi Tryz.prog 125:=canB_ok (by kernel_rfl)
theorem can178:zi Tryz.prog 156:=canB_ok (by kernel_rfl)
theorem znj(w:World)(n:Nat)(a b:Value)(o:Obj)(c:Nat)(hlt:c<w.heap.size)(h1:c≠n)(h2:c≠n+1):
 (((w.setCell ⟨n,0,none⟩ a).setCell ⟨n+1,0,none⟩ b).alloc o).heap[c]? =w.heap[c]? :=by
 have hsz:((w.setCell ⟨n,0,none⟩ a).setCell ⟨n+1,0,none⟩ b).heap.size=w.heap.size:=by simp [World.setCell]
 show (Array.push _ _)[c]? =_
 rw [Array.getElem?_push_lt (by rw [hsz];exact hlt), ←Array.getElem?_eq_getElem]
 rw [zbZ h2,zbZ h1]
theorem zvr {fid:FuncId}{caps:List V}{H:Hp}{r1 r2:AR}{s:List UInt8}(h1:r1.pre∧HCall Tryz.prog fid caps H r1)(h2:r2.pre∧HCall Tryz.prog 156 [r1.v] r1.h r2)(hv:r2.v=.str s):
 HCall Tryz.prog 125 [.fn fid caps] H ⟨True,.tup [.str s,.int .i64 0],r2.h,r1.R++r2.R.filter (· <H.next),r1.W++r2.W.filter (· <H.next)⟩:=by
 obtain⟨p1,s1,c1⟩:=h1
 obtain⟨p2,s2,c2⟩:=h2
 refine⟨fun _=>(s1 p1).trans (s2 p2),fun _ g base D w vs hgl hI hvs hpw hD=>?_⟩
 obtain⟨vf,hvf,rf⟩:=hpw 0 _ rfl
 obtain⟨arr,rfl,hsz,hcp⟩:=rf.inv_fn
 have hvs':vs=#[.func (.func fid) #[] arr]:=by
  apply Array.ext_getElem?;intro i;match i with
  |0=>exact hvf
  |i+1=>rw [Array.getElem?_eq_none (by simp at hvs;omega),Array.getElem?_eq_none (by simp)]
 subst hvs'
 let w2:=(w.alloc (.cells #[.string .empty] 9)).alloc (.cells #[.int .i64 0] 34)
 have hs2:w2.heap.size=w.heap.size+2:=by show ((w.heap.push _).push _).size=_;simp
 have hb:Bel w.heap.size w w2:=Bel.of (((Go.RowKit.Below.refl _ _).alloc (Nat.le_refl _) _).alloc (by show w.heap.size≤(w.heap.push _).size;simp) _) (Nat.le_refl _)
 have hI2:=hI.more hb
 have m1:∀ b∈r1.R++r1.W,D b:=fun b hb=>by
  rcases List.mem_append.1 hb with h|h
  ·exact hD b (List.mem_append_left _ (List.mem_append_left _ h))
  ·exact hD b (List.mem_append_right _ (List.mem_append_left _ h))
 have k1:=c1 p1 g base D w2 arr hgl hI2 hsz hcp m1
 refine .inl ⟨zyY _ w,zjk w fid arr (R1:=fun v w'=>∃ g',VRel g' r1.v v∧Post g g' base H r1.h D r1.W w2 w') (k1.mono ?_) ?_⟩
 ·rintro e w' ⟨g',vc,rfl,hv1,hp1⟩
  exact⟨vc,rfl,g',hv1,hp1⟩
 rintro v w' ⟨g',hv1,hp1⟩
 have m2:∀ b∈r2.R++r2.W,D b∨H.next≤b:=fun b hb=>by
  by_cases hlt:b<H.next
  ·left;rcases List.mem_append.1 hb with h|h
   ·exact hD b (List.mem_append_left _ (List.mem_append_right _ (List.mem_filter.2 ⟨h,by simpa using hlt⟩)))
   ·exact hD b (List.mem_append_right _ (List.mem_append_right _ (List.mem_filter.2 ⟨h,by simpa using hlt⟩)))
  ·exact .inr (Nat.le_of_not_lt hlt)
 have k2:=c2 p2 g' base (fun b=>D b∨H.next≤b) w' #[v] (hgl.mono hp1.le.2) hp1.inv rfl (fun i x hx=>by
  match i,hx with
  |0,hx=>cases hx;exact⟨v,rfl,hv1⟩) m2
 refine(zeF can178 k2).mono ?_
 rintro e w3 ⟨g2,vc,rfl,hv2,hp2⟩
 rw [hv]at hv2
 obtain⟨sb,rfl,hsb⟩:=hv2.inv_str
 have tot:=Post.trans hI2 hp1 hp2
 have fr:∀ c,w.heap.size≤c→c<w2.heap.size→w3.heap[c]? =w2.heap[c]? :=fun c h1 h2=>tot.frame c h2 fun b _ T e=>by have:=(hI.dom b T e).2.2;omega
 have b1:w3.heap[w.heap.size]? =some (.cells #[.string .empty] 9 (0,0)):=by rw [fr _ (Nat.le_refl _) (by omega)];show ((w.heap.push _).push _)[w.heap.size]? =_;rw [Array.getElem?_push_lt (by simp)];simp
 have b2:w3.heap[w.heap.size+1]? =some (.cells #[.int .i64 0] 34 (0,0)):=by rw [fr _ (by omega) (by omega)];show ((w.heap.push _).push _)[w.heap.size+1]? =_;rw [Array.getElem?_push,if_pos (by simp)]
 refine⟨sb,rfl,b1,b2,g2,_,rfl,?_,Post.around hI hb tot rfl ⟨rfl,Nat.le_refl _⟩ rfl ?_ ?_⟩
 ·refine VRel.mk_tup rfl fun i y hy=>?_
  match i,hy with
  |0,hy=>cases hy;exact⟨_,rfl,.str hsb⟩
  |1,hy=>cases hy;exact⟨_,rfl,.int _ _⟩
 ·show _≤(Array.push _ _).size
  simp [World.setCell]
 ·intro c hc ho
  exact znj w3 w.heap.size _ _ _ c hc (by omega) (by omega)
def spec1(rec:FuncId→List V→Hp→Option AR)(f:FuncId)(args:List V)(H:Hp):Option AR:=
 match Nat.beq f 125,args with
 |true,[.fn fid caps]=>
  match rec fid caps H with
  |some r1=>
   match rec 156 [r1.v] r1.h with
   |some r2=>
    match r2.v with
    | .str s=>some ⟨True,.tup [.str s,.int .i64 0],r2.h,r1.R++r2.R.filter (· <H.next),r1.W++r2.W.filter (· <H.next)⟩
    |_=>none
   |none=>none
  |none=>none
 |true,_=>none
 |false,_=>
  match Nat.beq f 186,args with
  |true,[x]=>some ⟨True,x,H,[],[]⟩
  |_,_=>none
theorem zo2(x:V)(H:Hp):HCall Tryz.prog 186 [x] H ⟨True,x,H,[],[]⟩:=by
 refine⟨fun _=>Stat.refl H,fun _ g base D w vs hgl hI hvs hpw hD=>?_⟩;obtain⟨v,hv,rv⟩:=hpw 0 _ rfl;have hvs':vs=#[v]:=by
  apply Array.ext_getElem?;intro i;match i with
  |0=>exact hv
  |i+1=>rw [Array.getElem?_eq_none (by simp at hvs;omega),Array.getElem?_eq_none (by simp)]
 subst hvs';refine .inr ⟨v,w,?_,g,v,rfl,rv,Post.refl hI rfl rfl (.refl _) rfl⟩;rw [run_callFunc_extern (fn:=Tryz.f186) Tryz.func186 (by kernel_rfl) rfl rfl (e:=Go.Extern.AbiNoEscape.same) (by kernel_rfl),Lib.run_noEscape];rfl
theorem zaA {E:ECfg}(h:E.spec=spec1):zhl Tryz.prog E:=by
 intro rec hrec f args H r e;rw [h]at e;unfold spec1 at e;split at e
 ·rename_i fid caps hf;have hf':=Nat.eq_of_beq_eq_true hf;subst hf';split at e;rotate_left;·cases e
  rename_i r1 h1;split at e;rotate_left;·cases e
  rename_i r2 h2;split at e
  ·rename_i s hs;cases e;exact⟨trivial,zvr (hrec _ _ _ _ h1) (hrec _ _ _ _ h2) hs⟩
  ·cases e
 ·cases e
 ·split at e
  ·rename_i x hf;have hf':=Nat.eq_of_beq_eq_true hf;subst hf';cases e;exact⟨trivial,zo2 x H⟩
  ·cases e
end Go.Proofs

namespace Go.Proofs
open Go.Ab Go.Pl
theorem zAv(w:World):(Instr.typeAssert (.iface 105 (.agg #[])) 20 105 true).run Tryz.prog w=.ok (.tuple #[.agg #[],.bool true]) w:=by
 have h1:Tryz.prog.underlying 105=some (.struct #[]):=by kernel_rfl
 simp [Instr.typeAssert,run_underlying h1]
abbrev longV:V:=.ifc 105 (.agg [])
abbrev longW:Value:=.iface 105 (.agg #[])
set_option maxRecDepth 100000 in
theorem zux(n:Nat)(w:World)(h1:w.heap[n]? =some (.cells #[.string .empty] 9 (0,0)))(h2:w.heap[n+1]? =some (.cells #[.int .i64 0] 34 (0,0))):
 CallsD Tryz.prog 155 #[.pointer (some ⟨n,0,none⟩),.pointer (some ⟨n+1,0,none⟩)] (.panicking [{ v:=longW,recovered:=false }]) w
  fun e u' w'=>e=.returned (.tuple #[])∧u'=.panicking [{ v:=longW,recovered:=true }]∧w'=(((w.alloc (.cells #[] 105)).setCell ⟨n,0,none⟩ (.string .empty)).setCell ⟨n+1,0,none⟩ (.int .i64 2)):=by
 refine callsD_of_wpS Tryz.func155 rfl fun c₀ cs hu=>?_
 apply wpS_seq
 apply wpS_region
 simp [wpOpsS,go_sem,recoverD,hu,Tryz.ntmps155,Exit.thenS,zAv]
 have hlt:n+1<w.heap.size:=(Array.getElem?_eq_some_iff.1 h2).1
 have a1:(w.alloc (.cells #[] 105)).heap[n]? =some (.cells #[.string .empty] 9 (0,0)):=by show (w.heap.push _)[n]? =_;rw [Array.getElem?_push_lt (by omega), ←h1,Array.getElem?_eq_getElem]
 have a2:(w.alloc (.cells #[] 105)).heap[n+1]? =some (.cells #[.int .i64 0] 34 (0,0)):=by show (w.heap.push _)[n+1]? =_;rw [Array.getElem?_push_lt hlt, ←h2,Array.getElem?_eq_getElem]
 generalize w.alloc (.cells #[] 105)=W at a1 a2 ⊢
 have c1:W.cell? ⟨n,0,none⟩=some (.string .empty):=by simp [World.cell?,a1]
 have f1:W.frozen? ⟨n,0,none⟩=false:=by simp [World.frozen?,a1]
 have c2:W.cell? ⟨n+1,0,none⟩=some (.int .i64 0):=by simp [World.cell?,a2]
 have f2:W.frozen? ⟨n+1,0,none⟩=false:=by simp [World.frozen?,a2]
 apply wpS_seq
 apply wpS_region
 simp [wpOpsS,go_sem,Exit.thenS]
 refine wpS_cond (t:=true) (by simp [Act.eval,Array.replicate]) ?_
 simp only [if_true]
 apply wpS_region
 simp [wpOpsS,go_sem,Exit.thenS,Act.eval,c1,f1,c2,f2]
 refine⟨rfl,.panicking [{ v:=longW,recovered:=true }],rfl,.tuple #[],by simp [results,Tryz.results155],rfl,rfl,rfl⟩
set_option maxRecDepth 100000 in
theorem ziO(w:World)(fid:FuncId)(caps:Array Value){R1:World→Prop}{R:Ending→World→Prop}
 (h1:GoCall Tryz.prog fid caps ((w.alloc (.cells #[.string .empty] 9)).alloc (.cells #[.int .i64 0] 34)) fun e w'=>e=.panicked [{ v:=longW,recovered:=false }]∧R1 w')
 (h3:∀ w',R1 w'→w'.heap[w.heap.size]? =some (.cells #[.string .empty] 9 (0,0))∧w'.heap[w.heap.size+1]? =some (.cells #[.int .i64 0] 34 (0,0))∧
  R (.returned (.tuple #[.string .empty,.int .i64 2])) (((w'.alloc (.cells #[] 105)).setCell ⟨w.heap.size,0,none⟩ (.string .empty)).setCell ⟨w.heap.size+1,0,none⟩ (.int .i64 2))):
 Calls Tryz.prog 125 #[.func (.func fid) #[] caps] w R:=by
 have hmf:∀(fn:Fn) (first cap:Array Value) (w:World),(Instr.makeFunc fn first cap).run Tryz.prog w=.ok (.func fn first cap) w:=fun _ _ _ _=>rfl
 go_enter_defers Tryz.func125,Tryz.ntmps125
 go_wp2
 refine ziL h1 ?_
 rintro e w1 ⟨rfl,hR1⟩
 obtain⟨hb1,hb2,hR⟩:=h3 w1 hR1
 refine leaves_cons (f:=155) (args:=#[.pointer (some ⟨w.heap.size,0,none⟩),.pointer (some ⟨w.heap.size+1,0,none⟩)]) (by simp) (by simp [go_sem]) ?_
 refine(zux w.heap.size w1 hb1 hb2).mono ?_
 rintro e u' w'' ⟨rfl,rfl,rfl⟩
 have hlt:w.heap.size+1<w1.heap.size:=(Array.getElem?_eq_some_iff.1 hb2).1
 have a1:(w1.alloc (.cells #[] 105)).heap[w.heap.size]? =some (.cells #[.string .empty] 9 (0,0)):=by show (w1.heap.push _)[w.heap.size]? =_;rw [Array.getElem?_push_lt (by omega), ←hb1,Array.getElem?_eq_getElem]
 have a2:(w1.alloc (.cells #[] 105)).heap[w.heap.size+1]? =some (.cells #[.int .i64 0] 34 (0,0)):=by show (w1.heap.push _)[w.heap.size+1]? =_;rw [Array.getElem?_push_lt hlt, ←hb2,Array.getElem?_eq_getElem]
 generalize w1.alloc (.cells #[] 105)=W at a1 a2 hR ⊢
 have e1:((W.setCell ⟨w.heap.size,0,none⟩ (.string .empty)).setCell ⟨w.heap.size+1,0,none⟩ (.int .i64 2)).cell? ⟨w.heap.size,0,none⟩=some (.string .empty):=by simp [World.cell?,World.setCell,Array.getElem?_modify,a1]
 have e2:((W.setCell ⟨w.heap.size,0,none⟩ (.string .empty)).setCell ⟨w.heap.size+1,0,none⟩ (.int .i64 2)).cell? ⟨w.heap.size+1,0,none⟩=some (.int .i64 2):=by simp [World.cell?,World.setCell,Array.getElem?_modify,a2]
 simp [Leaves,settle,results,Tryz.results125,go_sem,e1,e2]
 exact hR
theorem more_phi {g:G}{phi':Nat→Option (Array Value)}{w2 w':World}{B:Nat}(hb:Bel B w2 w')(h0:∀ c arr,g.phi c=some arr→c<B∧∃ t fr,w2.heap[c]? =some (.cells arr t fr))(hp:∀ c a,phi' c=some a→B≤c∧∃ t fr,w'.heap[c]? =some (.cells a t fr)):
 ∀ c arr,(G.more ⟨fun _=>none,g.phi⟩ phi').phi c=some arr→∃ t fr,w'.heap[c]? =some (.cells arr t fr):=by
 intro c arr e
 have e':(g.phi c).or (phi' c)=some arr:=e
 cases h:g.phi c with
 |none=>rw [h]at e';exact(hp c arr e').2
 |some a=>
  rw [h]at e'
  cases e'
  obtain⟨h1,t,fr,h2⟩:=h0 c arr h
  exact⟨t,fr,by rw [hb.block c h1];exact h2⟩
set_option maxRecDepth 100000 in
theorem zvp {fid:FuncId}{caps:List V}{v:V}{s:List UInt8}(h1:PCall Tryz.prog fid caps (.ret v))(h2:PCall Tryz.prog 156 [v] (.ret (.str s))):
 PCall Tryz.prog 125 [.fn fid caps] (.ret (.tup [.str s,.int .i64 0])):=by
 intro g w vs hgl hphi hsz hpw
 obtain⟨vf,hvf,rf⟩:=hpw 0 _ rfl
 obtain⟨arr,rfl,hsz',hcp⟩:=rf.inv_fn
 have hvs':vs=#[.func (.func fid) #[] arr]:=by
  apply Array.ext_getElem?;intro i;match i with
  |0=>exact hvf
  |i+1=>rw [Array.getElem?_eq_none (by simp at hsz;omega),Array.getElem?_eq_none (by simp)]
 subst hvs'
 let w2:=(w.alloc (.cells #[.string .empty] 9)).alloc (.cells #[.int .i64 0] 34)
 have hs2:w2.heap.size=w.heap.size+2:=by show ((w.heap.push _).push _).size=_;simp
 have hb:Bel w.heap.size w w2:=Bel.of (((Go.RowKit.Below.refl _ _).alloc (Nat.le_refl _) _).alloc (by show w.heap.size≤(w.heap.push _).size;simp) _) (Nat.le_refl _)
 have lo:∀ c a,g.phi c=some a→c<w.heap.size:=fun c a e=>let ⟨t,fr,h⟩:=hphi c a e;(Array.getElem?_eq_some_iff.1 h).1
 have ph2:∀ c a,g.phi c=some a→c<w2.heap.size∧∃ t fr,w2.heap[c]? =some (.cells a t fr):=fun c a e=>⟨by have:=lo c a e;omega,let ⟨t,fr,h⟩:=hphi c a e;⟨t,fr,by rw [hb.block c (lo c a e)];exact h⟩⟩
 have k1:=h1 g w2 arr hgl (fun c a e=>(ph2 c a e).2) hsz' hcp
 refine .inl ⟨zyY _ w,zjk w fid arr (R1:=fun v' w'=>∃ phi',(∀ c a,phi' c=some a→w2.heap.size≤c∧∃ t fr,w'.heap[c]? =some (.cells a t fr))∧Bel w2.heap.size w2 w'∧VRel (G.more ⟨fun _=>none,g.phi⟩ phi') v v') (k1.mono ?_) ?_⟩
 ·rintro e w' ⟨phi',vc,hp,hB,rfl,hv⟩
  exact⟨vc,rfl,phi',hp,hB,hv⟩
 rintro v' w' ⟨phi',hp,hB,hv⟩
 have k2:=h2 (G.more ⟨fun _=>none,g.phi⟩ phi') w' #[v'] (hgl.mono (G.more_le ⟨fun _=>none,g.phi⟩ phi').2) (more_phi hB ph2 hp) rfl (fun i x hx=>by
  match i,hx with
  |0,hx=>cases hx;exact⟨v',rfl,hv⟩)
 refine(zeF can178 k2).mono ?_
 rintro e w3 ⟨phi2,vc,hp2,hB2,rfl,hv2⟩
 obtain⟨sb,rfl,hsb⟩:=hv2.inv_str
 have sz1:=hB.size
 have sz2:=hB2.size
 have b1:w3.heap[w.heap.size]? =some (.cells #[.string .empty] 9 (0,0)):=by rw [hB2.block _ (by omega),hB.block _ (by omega)];show ((w.heap.push _).push _)[w.heap.size]? =_;rw [Array.getElem?_push_lt (by simp)];simp
 have b2:w3.heap[w.heap.size+1]? =some (.cells #[.int .i64 0] 34 (0,0)):=by rw [hB2.block _ (by omega),hB.block _ (by omega)];show ((w.heap.push _).push _)[w.heap.size+1]? =_;rw [Array.getElem?_push,if_pos (by simp)]
 refine⟨sb,rfl,b1,b2,fun _=>none,_,(fun c a e=>by cases e),⟨hB2.os.trans (hB.os.trans hb.os),⟨(hB2.tape.trans (hB.tape.trans hb.tape)).eq,(hB2.tape.trans (hB.tape.trans hb.tape)).le⟩,hB2.output.trans (hB.output.trans hb.output),?_,fun k hk=>?_⟩,rfl,?_⟩
 ·show _≤(Array.push _ _).size
  simp [World.setCell]
  omega
 ·rw [znj w3 w.heap.size _ _ _ k (by omega) (by omega) (by omega),hB2.block k (by omega),hB.block k (by omega),hb.block k hk]
 ·refine VRel.mk_tup rfl fun i y hy=>?_
  match i,hy with
  |0,hy=>cases hy;exact⟨_,rfl,.str hsb⟩
  |1,hy=>cases hy;exact⟨_,rfl,.int _ _⟩
set_option maxRecDepth 100000 in
theorem zvq {fid:FuncId}{caps:List V}(h1:PCall Tryz.prog fid caps (.panic longV)):
 PCall Tryz.prog 125 [.fn fid caps] (.ret (.tup [.str [],.int .i64 2])):=by
 intro g w vs hgl hphi hsz hpw
 obtain⟨vf,hvf,rf⟩:=hpw 0 _ rfl
 obtain⟨arr,rfl,hsz',hcp⟩:=rf.inv_fn
 have hvs':vs=#[.func (.func fid) #[] arr]:=by
  apply Array.ext_getElem?;intro i;match i with
  |0=>exact hvf
  |i+1=>rw [Array.getElem?_eq_none (by simp at hsz;omega),Array.getElem?_eq_none (by simp)]
 subst hvs'
 let w2:=(w.alloc (.cells #[.string .empty] 9)).alloc (.cells #[.int .i64 0] 34)
 have hs2:w2.heap.size=w.heap.size+2:=by show ((w.heap.push _).push _).size=_;simp
 have hb:Bel w.heap.size w w2:=Bel.of (((Go.RowKit.Below.refl _ _).alloc (Nat.le_refl _) _).alloc (by show w.heap.size≤(w.heap.push _).size;simp) _) (Nat.le_refl _)
 have lo:∀ c a,g.phi c=some a→c<w.heap.size:=fun c a e=>let ⟨t,fr,h⟩:=hphi c a e;(Array.getElem?_eq_some_iff.1 h).1
 have ph2:∀ c a,g.phi c=some a→∃ t fr,w2.heap[c]? =some (.cells a t fr):=fun c a e=>let ⟨t,fr,h⟩:=hphi c a e;⟨t,fr,by rw [hb.block c (lo c a e)];exact h⟩
 have k1:=h1 g w2 arr hgl ph2 hsz' hcp
 refine .inl ⟨zyY _ w,ziO w fid arr (R1:=fun w'=>Bel w2.heap.size w2 w') (k1.mono ?_) ?_⟩
 ·rintro e w' ⟨phi',vc,hp,hB,rfl,hv⟩
  refine⟨?_,hB⟩
  cases hv with
  |ifc hv=>
   cases hv with
   |agg vs hs h1 h2=>
    have:(_:Array Value)=#[]:=Array.eq_empty_of_size_eq_zero hs
    subst this
    rfl
 intro w3 hB
 have sz1:=hB.size
 have b1:w3.heap[w.heap.size]? =some (.cells #[.string .empty] 9 (0,0)):=by rw [hB.block _ (by omega)];show ((w.heap.push _).push _)[w.heap.size]? =_;rw [Array.getElem?_push_lt (by simp)];simp
 have b2:w3.heap[w.heap.size+1]? =some (.cells #[.int .i64 0] 34 (0,0)):=by rw [hB.block _ (by omega)];show ((w.heap.push _).push _)[w.heap.size+1]? =_;rw [Array.getElem?_push,if_pos (by simp)]
 refine⟨b1,b2,fun _=>none,_,(fun c a e=>by cases e),⟨hB.os.trans hb.os,⟨(hB.tape.trans hb.tape).eq,(hB.tape.trans hb.tape).le⟩,hB.output.trans hb.output,?_,fun k hk=>?_⟩,rfl,?_⟩
 ·have:w.heap.size≤(w3.heap.push (.cells #[] 105)).size:=by simp;omega
  have sc:∀(x:World) (p:Addr) (v:Value),(x.setCell p v).heap.size=x.heap.size:=by intro x p v;simp [World.setCell]
  rw [sc,sc]
  exact this
 ·rw [zbZ (by omega),zbZ (by omega)]
  show (Array.push _ _)[k]? =_
  rw [Array.getElem?_push_lt (by omega), ←Array.getElem?_eq_getElem,hB.block k (by omega),hb.block k hk]
 ·refine VRel.mk_tup rfl fun i y hy=>?_
  match i,hy with
  |0,hy=>cases hy;exact⟨_,rfl,.str rfl⟩
  |1,hy=>cases hy;exact⟨_,rfl,.int _ _⟩
end Go.Proofs
