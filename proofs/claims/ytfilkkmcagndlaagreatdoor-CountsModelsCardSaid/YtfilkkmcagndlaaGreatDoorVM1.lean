/- Whether a model is larger than a statement looks at. -/
import Derived.Test.YtfilkkmcagndlaaGreatDoorAbIn
import Derived.Test.YtfilkkmcagndlaaGreatDoorQRat2
import Derived.Test.YtfilkkmcagndlaaGreatDoorVConc
import Derived.Shelf.Sort.AssemblysIn
import Derived.Shelf.Slices.CompactS
import Derived.Sort.EveryDepth
import Derived.Test.YtfilkkmcagndlaaGreatDoorM2
import Derived.Test.YtfilkkmcagndlaaGreatDoorAbRules
import Derived.Sort.EncStr
import Derived.Sort.Grow
import Derived.Test.YtfilkkmcagndlaaGreatDoorAbEvP
import Derived.Test.YtfilkkmcagndlaaGreatDoorF2h
set_option linter.all false
namespace Go.Proofs
open Go.Ab Go.Cnt
end Go.Proofs

namespace Go.Proofs
open Go.Ab Go.Cnt Go.Pl
structure Fit0(m:Mdl):Prop where
 tl:m.tags.length≤1000000
 wl:m.words.length≤1000000
 nl:m.next.length≤1000000
 el:m.emit.length≤1000000
 nr:∀ r∈m.next,r.length≤1000000
 er:∀ r∈m.emit,r.length≤1000000
theorem zwZ(all k:Str)(ns:List Nat):∀ j,(outR all k ns j).2.length≤j
 |0=>Nat.le_refl _
 |j+1=>by
  have:=zwZ all k ns j;unfold outR;split
  ·omega
  ·split
   ·simp
   ·simp;omega
theorem zqK(k:Str)(len s:Nat)(ns:List Nat):(zcL k len s ns).2.length≤ns.length:=by
 unfold zcL;split
 ·simp
 ·split
  ·simp
  ·exact zwZ ..
theorem est_fit(A B:List Ent)(k:Str):Fit0 (estR A B k).1∧((estR A B k).2=0∨(estR A B k).2=1∨(estR A B k).2=2):=by
 have h0:Fit0 noM:=⟨by decide,by decide,by decide,by decide,fun r h=>(nomatch h),fun r h=>(nomatch h)⟩;unfold estR;split
 ·split
  ·exact⟨h0,.inr (.inr rfl)⟩
  ·rename_i hbig;unfold estG;split
   ·refine⟨⟨by dsimp only;omega,by dsimp only;omega,by simp;omega,by simp;omega,fun r hr=>?_,fun r hr=>?_⟩,.inl rfl⟩
    ·obtain⟨j,_,rfl⟩:=List.mem_map.1 hr;unfold rowN;refine Nat.le_trans (zqK ..) ?_;rw [zdx];omega
    ·obtain⟨j,_,rfl⟩:=List.mem_map.1 hr;unfold rowE;refine Nat.le_trans (zqK ..) ?_;rw [zdx];omega
   ·exact⟨h0,.inr (.inr rfl)⟩
 ·exact⟨h0,.inr (.inl rfl)⟩
end Go.Proofs

namespace Go.Proofs
open Go.Ab Go.Cnt Go.Pl
theorem zx7 {l:List Str}(h:IncS l):incS l=true:=incS_t fun i hi=>by rw [cmpS_neg];have:=List.pairwise_iff_getElem.1 h i (i+1) (by omega) hi (by omega);rw [List.getD_eq_getElem?_getD,List.getD_eq_getElem?_getD,List.getElem?_eq_getElem hi,List.getElem?_eq_getElem (show i<l.length by omega)];exact this
theorem zii {q:Str→Bool}{e:Ent}(h:zes q e=true):q e.1.1=true∧q e.1.2=true:=by unfold zes at h;cases h1:q e.1.1<;>cases h2:q e.1.2<;>simp_all
theorem zgC {A B:List Ent}(h:zcq A B=true):(∀ e∈A,zdK e.1.1=true∧zdK e.1.2=true)∧∀ e∈B,nameB e.1.1=true∧nameB e.1.2=true:=by unfold zcq vB at h;simp only [Bool.and_eq_true]at h;exact⟨fun e he=>zii (List.all_eq_true.1 h.1.1.2 e he),fun e he=>zii (List.all_eq_true.1 h.2.1.2 e he)⟩
theorem zxh {s:Str}(h:zdK s=true)(h0:s≠[]):nameB s=true:=by unfold zdK at h;simpa [h0] using h
theorem tag_name {A B:List Ent}(h:zcq A B=true):∀ s∈nmS (tagL A B),nameB s=true:=fun s hs=>by
 obtain⟨hA,hB⟩:=zgC h;obtain⟨h1,h0⟩:=mem_nmS.1 hs;rcases List.mem_append.1 h1 with h1|h1
 ·obtain⟨e,he,h1⟩:=List.mem_flatMap.1 h1;simp only [List.mem_cons,List.not_mem_nil,or_false]at h1;rcases h1 with rfl|rfl
  ·exact zxh (hA e he).1 h0
  ·exact zxh (hA e he).2 h0
 ·obtain⟨e,he,rfl⟩:=List.mem_map.1 h1;exact(hB e he).1
theorem zvt {A B:List Ent}(h:zcq A B=true):∀ s∈nmS (zai B),nameB s=true:=fun s hs=>by obtain⟨_,hB⟩:=zgC h;obtain⟨h1,h0⟩:=mem_nmS.1 hs;obtain⟨e,he,rfl⟩:=List.mem_map.1 h1;exact(hB e he).2
theorem zqJ {l:List Ent}(hs:zdd l)(hl:l.length≤30000){T:List Str}(hT:T.length≤90000){k:Str}(hp:(ratP k).isSome=true)(hk:k.head? ≠some 45)(a:Str)(h:(zcL k (T.length+1) (sumU a l l.length) (vecU a T l l.length)).1=0):
 zdE k (zcL k (T.length+1) (sumU a l l.length) (vecU a T l l.length)).2∧(zcL k (T.length+1) (sumU a l l.length) (vecU a T l l.length)).2.length=T.length+1:=by
 have:=zoo (a:=a) hs l.length
 exact zwA hp hk (by omega) (by omega) (by omega) (zdx a T l _) (zjl a T l _) h
theorem mat_ok {k:Str}{w n:Nat}(f:Nat→Int×List Str)(h:∀ j,j<n→zdE k (f j).2∧(f j).2.length=w):matB ((List.range n).map fun j=>(f j).2) n w=true∧∀ r∈(List.range n).map fun j=>(f j).2,zdE k r:=by
 have hr:∀ r∈(List.range n).map fun j=>(f j).2,zdE k r∧r.length=w:=fun r hr=>by obtain⟨j,hj,rfl⟩:=List.mem_map.1 hr;exact h j (List.mem_range.1 hj)
 refine⟨?_,fun r h=>(hr r h).1⟩;unfold matB;rw [decide_eq_true (by simp)];refine List.all_eq_true.2 fun r h=>?_;unfold zfw;rw [decide_eq_true (hr r h).2,Bool.true_and];exact List.all_eq_true.2 (hr r h).1.1
def mdlGood(k:Str)(m:Mdl):Prop:=vmB m=true∧(∀ r∈m.next,zdE k r)∧∀ r∈m.emit,zdE k r
theorem est_good {A B:List Ent}{k:Str}(h:(estR A B k).2=0):mdlGood k (estR A B k).1:=by
 unfold estR at h ⊢;by_cases h1:(zcq A B&&((ratP k).isSome&& !decide (k.head? =some 45)))=true
 ·rw [if_pos h1]at h ⊢;by_cases h2:40<(nmS (tagL A B)).length∨500<(nmS (zai B)).length
  ·rw [if_pos h2]at h;cases h
  rw [if_neg h2]at h ⊢;by_cases h3:okR (rowN A (nmS (tagL A B)) k) (rowE B (nmS (tagL A B)) (nmS (zai B)) k) (nmS (tagL A B)).length∧(rowN A (nmS (tagL A B)) k (nmS (tagL A B)).length).1=0
  ·rw [zyp h3.1 h3.2]at h ⊢;simp only [Bool.and_eq_true,Bool.not_eq_true',decide_eq_false_iff_not]at h1;obtain⟨hv,hp,hk⟩:=h1;obtain⟨sA,sB⟩:=zee hv;obtain⟨⟨_,lA⟩,_,lB⟩:=zjm hv;have hT:=zh2 (tagL A B);have hW:=zh2 (zai B);have nT:=tag_name hv;have nW:=zvt hv;generalize nmS (tagL A B)=T at*;generalize nmS (zai B)=W at*;have lT:T.length≤40:=by omega
   have lW:W.length≤500:=by omega
   obtain⟨m1,m2⟩:=mat_ok (k:=k) (w:=T.length+1) (n:=T.length+1) (rowN A T k) fun j hj=>by
    refine zqJ sA lA (by omega) hp hk _ ?_;rcases Nat.lt_or_ge j T.length with h|h
    ·exact h3.1.1 j h
    ·obtain rfl:j=T.length:=by omega
     exact h3.2
   obtain⟨m3,m4⟩:=mat_ok (k:=k) (w:=W.length+1) (n:=T.length) (rowE B T W k) fun j hj=>zqJ sB lB (by omega) hp hk _ (h3.1.2 j hj);refine⟨?_,m2,m4⟩;unfold vmB;rw [decide_eq_true lT,decide_eq_true lW,zx7 hT,zx7 hW,m1,m3];simp only [Bool.true_and,Bool.and_true];refine List.all_eq_true.2 fun s hs=>?_;rcases List.mem_append.1 hs with h|h
   ·exact nT s h
   ·exact nW s h
  ·rw [zbk h3]at h;cases h
 ·rw [if_neg h1]at h;cases h
end Go.Proofs

namespace Go.Proofs
open Go.Ab Go.Shelf
def renS:Ren where
 f:=fun x=>match x with|125=>93|128=>123|129=>124|190=>61|258=>92|302=>114|303=>115|304=>116|305=>117|306=>118|307=>119|308=>120|309=>121|310=>122|329=>151|330=>152|333=>150|334=>153|335=>154|336=>51|344=>178|194=>62|n=>n
 t:=fun x=>match x with|0=>0|3=>3|4=>4|5=>5|9=>9|31=>25|46=>114|51=>140|53=>108|131=>137|182=>131|183=>132|218=>166|222=>170|228=>188|229=>189|n=>n
 g:=fun x=>x
theorem laysS190:Lays.n190 Tryz.prog renS:=by constructor<;>first|kernel_rfl|(intro w;kernel_rfl)
theorem laysS194:Lays.n194 Tryz.prog renS:=by constructor<;>first|kernel_rfl|(intro w;kernel_rfl)
end Go.Proofs

namespace Go.Ab
open Go.Sort Go.Proofs
def retS(b:Nat):Option Nat→V
 |none=>.tup []
 |some m=>.sl b 0 m 1 none
def retV(a:Addr)(cap:Nat):Option Nat→Value
 |none=>.tuple #[]
 |some m=>.slice (some a) m cap
theorem zjv {P:Program}{f:FuncId}(hs:zi P f){d d':List (List UInt8)}{rest:List V}(hlen:d'.length=d.length)(ret:Option Nat)(hret:∀ m,ret=some m→m≤d.length)
 (hc:∀(blk off cap:Nat) (w:World),Holds encStr w blk off d.toArray→blk<w.heap.size→d.length≤cap→
  Calls P f #[.slice (some ⟨blk,off,none⟩) d.length cap] w fun e w'=>e=.returned (retV ⟨blk,off,none⟩ cap ret)∧∃ q os,w'=grow (putRow encStr (Sort.ahead w q) blk off d'.toArray) os)
 {H:Hp} {b:Nat} (hb:H.get b=some (.cells (strs d++rest))):
 HCall P f [.sl b 0 d.length 1 none] H ⟨True,retS b ret,H.put b (.cells (strs d'++rest)),[b],[b]⟩:=by
 refine⟨fun _=>⟨Nat.le_refl _,fun k hk hw=>?_,fun k hk=>?_,fun hk k x e=>?_⟩,fun _ g base D w vs hg hI hvs hpw hD=>?_⟩
 ·rw [Hp.get_put,if_neg (by simpa using hw)]
 ·obtain rfl:k=b:=by simpa using hk
  exact⟨_,hb⟩
 ·rw [Hp.get_put]at e
  show k<H.next
  split at e
  ·rename_i hkb;subst hkb;exact hk _ _ hb
  ·exact hk _ _ e
 obtain⟨T,o,hT,hphi,ho,hrel⟩:=hI.cont b _ (hD b (by simp)) hb
 obtain⟨v0,hv0,r0⟩:=hpw 0 _ rfl
 obtain⟨T',o',cap,hT',hcap,hoff,hk,rfl⟩:=r0.inv_sl
 obtain rfl:T'=T:=by rw [hT]at hT';exact(Option.some.inj hT').symm
 obtain⟨arr,t,rfl,hsz,hbd,hpw0⟩:∃ arr t,o=.cells arr t (0,0)∧arr.size=T'.tot∧T'.sh+(strs d++rest).length≤T'.tot∧PW g (strs d++rest) (fun i=>arr[T'.sh+i]?):=by
  cases hrel with
  |cells h1 h2 h3=>exact⟨_,_,rfl,h1,h2,h3⟩
 have hvs2:vs=#[.slice (some ⟨T'.c,o',none⟩) d.length cap]:=by
  apply Array.ext_getElem?;intro i;match i with
  |0=>exact hv0
  |i+1=>rw [Array.getElem?_eq_none (by simp at hvs;omega)];simp
 subst hvs2
 have hoff':d.length≠0→o'=T'.sh:=fun h=>by have:=(hoff (by omega)).1;omega
 have hblk:T'.c<w.heap.size:=(Array.getElem?_eq_some_iff.1 ho).1
 have hcell:∀ j,j<d.length→arr[T'.sh+j]? =some (encStr (d.getD j [])):=by
  intro j hj;have hx:(strs d++rest)[j]? =some (.str (d.getD j [])):=by rw [List.getElem?_append_left (by rw [zZ];exact hj)];simp [strs,hj]
  obtain⟨u,hu,ru⟩:=hpw0 j _ hx;obtain⟨s,rfl,hs'⟩:=ru.inv_str;have hu':arr[T'.sh+j]? =some (.string s):=hu;rw [hu', ←hs']
 have hH:Holds encStr w T'.c o' d.toArray:=by
  intro j hj;have hj':j<d.length:=by simpa using hj
  refine⟨?_,?_⟩
  ·rw [hoff' (by omega)];unfold World.cell?;simp only [ho];have:=hcell j hj';simp only [this];simp [hj']
  ·simp [World.frozen?,ho]
 refine .inl ⟨hs _ _,(hc T'.c o' cap w hH hblk hcap).mono fun e w' h=>?_⟩
 obtain⟨rfl,q,os,rfl⟩:=h
 let w2:World:=putRow encStr (Sort.ahead w q) T'.c o' d'.toArray
 have h2c:w2.heap[T'.c]? =some (.cells (Go.Sort.putCells encStr o' d'.toArray arr) t (0,0)):=by show ((w.heap.modify T'.c _)[T'.c]?)=_;rw [Array.getElem?_modify,if_pos rfl,ho];rfl
 have h2o:∀ c,c≠T'.c→w2.heap[c]? =w.heap[c]? :=by intro c hne;show ((w.heap.modify T'.c _)[c]?)=_;rw [Array.getElem?_modify,if_neg (fun e=>hne e.symm)]
 have h2s:w2.heap.size=w.heap.size:=by show (w.heap.modify T'.c _).size=_;simp
 have hrel2:BlkRel g (.cells (strs d'++rest)) T' (.cells (Go.Sort.putCells encStr o' d'.toArray arr) t (0,0)):=by
  have hl2:(strs d'++rest).length=(strs d++rest).length:=by simp [strs,hlen]
  refine .cells (by unfold Go.Sort.putCells;simpa using hsz) (by rw [hl2];exact hbd) fun i x hx=>?_;show ∃ u,(Go.Sort.putCells encStr o' d'.toArray arr)[T'.sh+i]? =some u∧VRel g x u;unfold Go.Sort.putCells;rw [Array.getElem?_mapIdx];by_cases hi:i<d.length
  ·have hx':x=.str (d'.getD i []):=by
    rw [List.getElem?_append_left (by rw [zZ];omega)]at hx
    simp only [strs,List.getElem?_map,Option.map_eq_some_iff]at hx
    obtain⟨a,ha,rfl⟩:=hx
    rw [List.getD_eq_getElem?_getD,ha];rfl
   subst hx'
   rw [hcell i hi,hoff' (by omega)]
   refine⟨encStr (d'.getD i []),?_,.str rfl⟩
   simp only [Option.map_some,Option.some.injEq]
   rw [if_pos ⟨by omega,by simp;omega⟩,show T'.sh+i - T'.sh=i by omega]
   congr 1
   rw [getElem!_pos _ _ (by simp;omega)]
   rw [List.getD_eq_getElem?_getD,List.getElem?_eq_getElem (by omega)]
   simp
  ·have hx':(strs d++rest)[i]? =some x:=by
    rw [List.getElem?_append_right (by rw [zZ];omega),zZ]at hx ⊢
    rwa [hlen]at hx
   obtain⟨u,hu,ru⟩:=hpw0 i x hx'
   refine⟨u,?_,ru⟩
   have hu':arr[T'.sh+i]? =some u:=hu
   rw [hu']
   simp only [Option.map_some,Option.some.injEq]
   by_cases h0:d.length=0
   ·rw [if_neg (by simp;omega)]
   ·rw [if_neg (by rw [hoff' h0];simp;omega)]
 have p1:Post g g base H (H.put b (.cells (strs d'++rest))) D [b] w w2:=Post.put hI (hD b (by simp)) hb hT h2c h2o h2s rfl ⟨rfl,Nat.le_add_right _ _⟩ rfl hrel2
 have hbel:Bel w2.heap.size w2 (grow w2 os):=⟨rfl,⟨rfl,Nat.le_refl _⟩,rfl,by simp [grow],fun k hk=>heap_grow_old w2 os hk⟩
 have p2:=Post.pure (D:=fun k=>D k∨H.next≤k) p1.inv (fun _=>none) hbel (fun c a e=>by cases e)
 have p:=Post.trans hI p1 p2
 refine⟨_,_,rfl,?_,(by simpa using p:Post g (g.more fun _=>none) base H (H.put b (.cells (strs d'++rest))) D [b] w (grow w2 os))⟩
 cases ret with
 |none=>exact VRel.mk_tup rfl PW.nil
 |some m=>
  have hm:=hret m rfl
  exact(VRel.sl (len:=m) hT (by omega) hoff hk).mono (by exact p.le)
end Go.Ab

namespace Go.Proofs
open Go.Ab
theorem zbA:Tryz.prog.follows .mixedOrders=true:=by kernel_rfl
end Go.Proofs

namespace Go.Ab
variable {P:Program}
abbrev FTab:=List (List V×V)
abbrev Tab:=List (FuncId×FTab)
def eqS:List UInt8→List UInt8→Bool
 |[],[]=>true
 |a::r,b::s=>Nat.beq a.toNat b.toNat&&eqS r s
 |_,_=>false
theorem eqS_eq:∀ {a b:List UInt8},eqS a b=true→a=b
 |[],b,h=>by cases b<;>simp [eqS]at h;rfl
 |x::r,b,h=>by
  cases b with
  |nil=>simp [eqS]at h
  |cons y s=>simp [eqS]at h;rw [eqS_eq h.2,UInt8.toNat_inj.1 h.1]
def eqA:V→V→Bool
 | .str a,.str b=>eqS a b
 | .int k a,.int k' b=>decide (k=k')&&decide (a=b)
 | .bool a,.bool b=>a==b
 |_,_=>false
def eqAs:List V→List V→Bool
 |[],[]=>true
 |a::r,b::s=>eqA a b&&eqAs r s
 |_,_=>false
theorem eqA_eq {a b:V}(h:eqA a b=true):a=b∧Pure a:=by
 unfold eqA at h;split at h
 ·exact⟨by rw [eqS_eq h],.str _⟩
 ·simp at h;exact⟨by rw [h.1,h.2],.int _ _⟩
 ·simp at h;exact⟨by rw [h],.bool _⟩
 ·cases h
theorem zyq:∀ {a b:List V},eqAs a b=true→a=b
 |[],b,h=>by cases b<;>simp [eqAs]at h;rfl
 |x::r,b,h=>by
  cases b with
  |nil=>simp [eqAs]at h
  |cons y s=>simp [eqAs]at h;rw [(eqA_eq h.1).1,zyq h.2]
def tabGo(L:FTab)(args:List V):Option PR:=
 match L with
 |[]=>none
 |q::r=>match eqAs q.1 args with
  |true=>some (.ret q.2)
  |false=>tabGo r args
def tabF(T:Tab)(f:FuncId)(args:List V):Option PR:=
 match T with
 |[]=>none
 |e::r=>match Nat.beq e.1 f with
  |true=>tabGo e.2 args
  |false=>tabF r f args
def FTabOK(P:Program)(f:FuncId)(L:FTab):Prop:=∀ q∈L,PCall P f q.1 (.ret q.2)
theorem FTabOK.nil {f:FuncId}:FTabOK P f []:=fun _ h=>by cases h
theorem FTabOK.append {f:FuncId}{L M:FTab}(h:FTabOK P f L)(k:FTabOK P f M):FTabOK P f (L++M):=fun q hq=>(List.mem_append.1 hq).elim (h q) (k q)
def TabOK(P:Program)(T:Tab):Prop:=∀ e∈T,FTabOK P e.1 e.2
theorem TabOK.nil:TabOK P []:=fun _ h=>by cases h
theorem TabOK.cons {f:FuncId}{L:FTab}{T:Tab}(h:FTabOK P f L)(k:TabOK P T):TabOK P ((f,L)::T):=fun e he=>by
 rcases List.mem_cons.1 he with rfl|he
 ·exact h
 ·exact k e he
theorem zqz {f:FuncId}{args:List V}{r:PR}:∀ {L:FTab},FTabOK P f L→tabGo L args=some r→PCall P f args r
 |[],_,h=>by cases h
 |q::L,ok,h=>by
  unfold tabGo at h;split at h
  ·rename_i e;cases h;rw [←zyq e];exact ok q (List.mem_cons_self ..)
  ·exact zqz (fun q hq=>ok q (List.mem_cons_of_mem _ hq)) h
theorem zvF {f:FuncId}{args:List V}{r:PR}:∀ {T:Tab},TabOK P T→tabF T f args=some r→PCall P f args r
 |[],_,h=>by cases h
 |e::T,ok,h=>by
  unfold tabF at h;split at h
  ·rename_i q;have q':=Nat.eq_of_beq_eq_true q;subst q';exact zqz (ok e (List.mem_cons_self ..)) h
  ·exact zvF (fun e he=>ok e (List.mem_cons_of_mem _ he)) h
noncomputable def chkT(E:ECfg)(P:Program)(n:Nat)(f:FuncId)(L:FTab):Bool:=
 match L with
 |[]=>true
 |q::r=>
  match eAns E P n f q.1 with
  |some v=>beqV v q.2&&eqAs q.1 q.1&&chkT E P n f r
  |none=>false
theorem znu:∀ {a:List V},eqAs a a=true→∀ x∈a,Pure x
 |y::r,h,x,hx=>by
  simp [eqAs]at h;rcases List.mem_cons.1 hx with rfl|hx
  ·exact(eqA_eq h.1).2
  ·exact znu h.2 x hx
theorem za6 {E:ECfg}(hm:P.follows .mixedOrders=true)(hΓ:∀ f args r,E.Γ f args=some r→PCall P f args r)(hcan:∀ f,E.can f=true→zi P f)(hsp:zhl P E)
 {n:Nat} {f:FuncId}:∀ {L:FTab},chkT E P n f L=true→FTabOK P f L
 |[],_=>FTabOK.nil
 |q::L,h=>by
  unfold chkT at h;split at h;rotate_left;·cases h
  rename_i v hv;simp only [Bool.and_eq_true]at h;intro q' hq;rcases List.mem_cons.1 hq with rfl|hq
  ·have:=zpz hm hΓ hcan hsp (znu h.1.2) hv;rw [ziF h.1.1]at this;exact this
  ·exact za6 hm hΓ hcan hsp h.2 q' hq
def zhu(E:ECfg)(T:Tab):ECfg:={ E with Γ:=fun f args=>match tabF T f args with|some r=>some r|none=>E.Γ f args }
theorem zeG {E:ECfg}{T:Tab}(hΓ:∀ f args r,E.Γ f args=some r→PCall P f args r)(hT:TabOK P T):∀ f args r,(zhu E T).Γ f args=some r→PCall P f args r:=by
 intro f args r h;have h':(match tabF T f args with|some r=>some r|none=>E.Γ f args)=some r:=h;split at h'
 ·rename_i r' hr;cases h';exact zvF hT hr
 ·exact hΓ f args r h'
end Go.Ab

namespace Go.Proofs
open Go.Ab
theorem can1:((List.range (192+1)).all fun f=>[0,1,166,184,186,192].contains f||canB Tryz.prog f)=true:=by kernel_rfl
def zyg(args:List V):Option PR:=
 match args with
 |[.str s,.int .u8 n]=>bif decide (0≤n)&&decide (n<256)then some (.ret (.int .i64 (ixB s (UInt8.ofNat n.toNat))))else none
 |_=>none
theorem zyf(args:List V)(r:PR)(h:zyg args=some r):PCall Tryz.prog 184 args r:=by
 unfold zyg at h;split at h
 ·rename_i s n;cases hc:(decide (0≤n)&&decide (n<256))with
  |false=>rw [hc]at h;cases h
  |true=>
   rw [hc]at h;cases h;simp only [Bool.and_eq_true,decide_eq_true_eq]at hc;have e:((UInt8.ofNat n.toNat).toNat:Int)=n:=by simp;omega
   have:=zrf s (UInt8.ofNat n.toNat);rw [e]at this;exact this
 ·cases h
def Γ1(f:FuncId)(args:List V):Option PR:=bif Nat.beq f 184 then zyg args else none
theorem zgB:∀ f args r,Γ1 f args=some r→PCall Tryz.prog f args r:=by
 intro f args r h;unfold Γ1 at h;cases hf:Nat.beq f 184 with
 |false=>rw [hf]at h;cases h
 |true=>rw [hf]at h;rw [Nat.eq_of_beq_eq_true hf];exact zyf _ _ h
def wr1(f:FuncId):Nat:=bif [160,140,171,79,106,129,130,131,132,133,134,135,136,61,92,114,115,116,117,118,119,121,122,162,152,163,164,150,153,154,183,178,59,62].contains f then 1 else bif [142,144].contains f then 2 else 0
def E1:ECfg:=⟨Γ1,canL [0,1,166,184,186,192] 192,wr1,fun _=>false,100000,spec1⟩
theorem E1_ok {n:Nat}{f:FuncId}{args:List V}{v:V}(hp:∀ x∈args,Pure x)(h:eAns E1 Tryz.prog n f args=some v):PCall Tryz.prog f args (.ret v):=
 zpz zbA zgB (zaX can1) (zaA rfl) hp h
end Go.Proofs
