/- The ground of the machine at this translation. -/
import Derived.Test.YthbimeikbkjnkaaGreatDoorAbEvP
import Derived.Test.YthbimeikbkjnkaaGreatDoorPlPad
import Derived.KernelRfl
set_option linter.all false
namespace Go.Proofs
open Go.Ab
theorem zaW:Tryz.prog.follows .mixedOrders=true:=by kernel_rfl
end Go.Proofs

namespace Go.Ab
variable {P:Program}
abbrev FTab:=List (List V×V)
abbrev Tab:=List (FuncId×FTab)
def eqS:List UInt8→List UInt8→Bool
 |[],[]=>true
 |a::r,b::s=>Nat.beq a.toNat b.toNat&&eqS r s
 |_,_=>false
theorem eqS_eq:∀ {a b:List UInt8},eqS a b=true→a=b
 |[],b,h=>by cases b<;>simp [eqS]at h;rfl
 |x::r,b,h=>by
  cases b with
  |nil=>simp [eqS]at h
  |cons y s=>simp [eqS]at h;rw [eqS_eq h.2,UInt8.toNat_inj.1 h.1]
def eqA:V→V→Bool
 | .str a,.str b=>eqS a b
 | .int k a,.int k' b=>decide (k=k')&&decide (a=b)
 | .bool a,.bool b=>a==b
 |_,_=>false
def eqAs:List V→List V→Bool
 |[],[]=>true
 |a::r,b::s=>eqA a b&&eqAs r s
 |_,_=>false
theorem eqA_eq {a b:V}(h:eqA a b=true):a=b∧Pure a:=by
 unfold eqA at h;split at h
 ·exact⟨by rw [eqS_eq h],.str _⟩
 ·simp at h;exact⟨by rw [h.1,h.2],.int _ _⟩
 ·simp at h;exact⟨by rw [h],.bool _⟩
 ·cases h
theorem zvL:∀ {a b:List V},eqAs a b=true→a=b
 |[],b,h=>by cases b<;>simp [eqAs]at h;rfl
 |x::r,b,h=>by
  cases b with
  |nil=>simp [eqAs]at h
  |cons y s=>simp [eqAs]at h;rw [(eqA_eq h.1).1,zvL h.2]
def tabGo(L:FTab)(args:List V):Option PR:=
 match L with
 |[]=>none
 |q::r=>match eqAs q.1 args with
  |true=>some (.ret q.2)
  |false=>tabGo r args
def tabF(T:Tab)(f:FuncId)(args:List V):Option PR:=
 match T with
 |[]=>none
 |e::r=>match Nat.beq e.1 f with
  |true=>tabGo e.2 args
  |false=>tabF r f args
def FTabOK(P:Program)(f:FuncId)(L:FTab):Prop:=∀ q∈L,PCall P f q.1 (.ret q.2)
theorem FTabOK.nil {f:FuncId}:FTabOK P f []:=fun _ h=>by cases h
theorem FTabOK.append {f:FuncId}{L M:FTab}(h:FTabOK P f L)(k:FTabOK P f M):FTabOK P f (L++M):=fun q hq=>(List.mem_append.1 hq).elim (h q) (k q)
def TabOK(P:Program)(T:Tab):Prop:=∀ e∈T,FTabOK P e.1 e.2
theorem TabOK.nil:TabOK P []:=fun _ h=>by cases h
theorem TabOK.cons {f:FuncId}{L:FTab}{T:Tab}(h:FTabOK P f L)(k:TabOK P T):TabOK P ((f,L)::T):=fun e he=>by
 rcases List.mem_cons.1 he with rfl|he
 ·exact h
 ·exact k e he
theorem zoA {f:FuncId}{args:List V}{r:PR}:∀ {L:FTab},FTabOK P f L→tabGo L args=some r→PCall P f args r
 |[],_,h=>by cases h
 |q::L,ok,h=>by
  unfold tabGo at h;split at h
  ·rename_i e;cases h;rw [←zvL e];exact ok q (List.mem_cons_self ..)
  ·exact zoA (fun q hq=>ok q (List.mem_cons_of_mem _ hq)) h
theorem zte {f:FuncId}{args:List V}{r:PR}:∀ {T:Tab},TabOK P T→tabF T f args=some r→PCall P f args r
 |[],_,h=>by cases h
 |e::T,ok,h=>by
  unfold tabF at h;split at h
  ·rename_i q;have q':=Nat.eq_of_beq_eq_true q;subst q';exact zoA (ok e (List.mem_cons_self ..)) h
  ·exact zte (fun e he=>ok e (List.mem_cons_of_mem _ he)) h
noncomputable def chkT(E:ECfg)(P:Program)(n:Nat)(f:FuncId)(L:FTab):Bool:=
 match L with
 |[]=>true
 |q::r=>
  match eAns E P n f q.1 with
  |some v=>beqV v q.2&&eqAs q.1 q.1&&chkT E P n f r
  |none=>false
theorem zlG:∀ {a:List V},eqAs a a=true→∀ x∈a,Pure x
 |y::r,h,x,hx=>by
  simp [eqAs]at h;rcases List.mem_cons.1 hx with rfl|hx
  ·exact(eqA_eq h.1).2
  ·exact zlG h.2 x hx
theorem zaw {E:ECfg}(hm:P.follows .mixedOrders=true)(hΓ:∀ f args r,E.Γ f args=some r→PCall P f args r)(hcan:∀ f,E.can f=true→zi P f)(hsp:zgb P E)
 {n:Nat} {f:FuncId}:∀ {L:FTab},chkT E P n f L=true→FTabOK P f L
 |[],_=>FTabOK.nil
 |q::L,h=>by
  unfold chkT at h;split at h;rotate_left;·cases h
  rename_i v hv;simp only [Bool.and_eq_true]at h;intro q' hq;rcases List.mem_cons.1 hq with rfl|hq
  ·have:=zvR hm hΓ hcan hsp (zlG h.1.2) hv;rw [zhk h.1.1]at this;exact this
  ·exact zaw hm hΓ hcan hsp h.2 q' hq
def zgk(E:ECfg)(T:Tab):ECfg:={ E with Γ:=fun f args=>match tabF T f args with|some r=>some r|none=>E.Γ f args }
theorem zdV {E:ECfg}{T:Tab}(hΓ:∀ f args r,E.Γ f args=some r→PCall P f args r)(hT:TabOK P T):∀ f args r,(zgk E T).Γ f args=some r→PCall P f args r:=by
 intro f args r h;have h':(match tabF T f args with|some r=>some r|none=>E.Γ f args)=some r:=h;split at h'
 ·rename_i r' hr;cases h';exact zte hT hr
 ·exact hΓ f args r h'
end Go.Ab

namespace Go.Proofs
open Go.Ab
theorem can1:((List.range (260+1)).all fun f=>[0,1,236,247,251,258].contains f||canB Tryz.prog f)=true:=by kernel_rfl
def zvE(args:List V):Option PR:=
 match args with
 |[.str s,.int .u8 n]=>bif decide (0≤n)&&decide (n<256)then some (.ret (.int .i64 (ixB s (UInt8.ofNat n.toNat))))else none
 |_=>none
theorem zvD(args:List V)(r:PR)(h:zvE args=some r):PCall Tryz.prog 251 args r:=by
 unfold zvE at h;split at h
 ·rename_i s n;cases hc:(decide (0≤n)&&decide (n<256))with
  |false=>rw [hc]at h;cases h
  |true=>
   rw [hc]at h;cases h;simp only [Bool.and_eq_true,decide_eq_true_eq]at hc;have e:((UInt8.ofNat n.toNat).toNat:Int)=n:=by simp;omega
   have:=zo1 s (UInt8.ofNat n.toNat);rw [e]at this;exact this
 ·cases h
def Γ1(f:FuncId)(args:List V):Option PR:=bif Nat.beq f 251 then zvE args else none
theorem zkt:∀ f args r,Γ1 f args=some r→PCall Tryz.prog f args r:=by
 intro f args r h;unfold Γ1 at h;cases hf:Nat.beq f 251 with
 |false=>rw [hf]at h;cases h
 |true=>rw [hf]at h;rw [Nat.eq_of_beq_eq_true hf];exact zvD _ _ h
def wr1(f:FuncId):Nat:=bif Nat.beq f 245||Nat.beq f 208||Nat.beq f 230||Nat.beq f 171 then 1 else bif Nat.beq f 210||Nat.beq f 212 then 2 else 0
def E1:ECfg:=⟨Γ1,canL [0,1,236,247,251,258] 260,wr1,fun _=>false,100000,spec1⟩
end Go.Proofs

namespace Go.Proofs
open Go.Ab
def TAL150:List (List V×V):=[([.str [48]],.bool true),
 ([.str [49]],.bool true),
 ([.str [52]],.bool true),
 ([.str [50]],.bool true),
 ([.str [51]],.bool true),
 ([.str [49,54]],.bool true),
 ([.str [56]],.bool true),
 ([.str [51,50]],.bool true),
 ([.str [49,50,56]],.bool true),
 ([.str [50,53,54]],.bool true)]
theorem zyg:FTabOK Tryz.prog 150 TAL150:=zaw (E:=E1) (n:=60) zaW zkt (zax can1) (zZ rfl) (by kernel_rfl)
def TAL154:List (List V×V):=[([.str [48],.str [45]],.tup [.str [48],.bool false]),
 ([.str [49],.str [45]],.tup [.str [49],.bool false]),
 ([.str [49,47,52],.str [45]],.tup [.str [49,47,52],.bool false]),
 ([.str [49,47,50],.str [45]],.tup [.str [49,47,50],.bool false]),
 ([.str [51,47,52],.str [45]],.tup [.str [51,47,52],.bool false]),
 ([.str [51,47,49,54],.str [45]],.tup [.str [51,47,49,54],.bool false]),
 ([.str [49,47,56],.str [45]],.tup [.str [49,47,56],.bool false]),
 ([.str [49,47,51,50],.str [45]],.tup [.str [49,47,51,50],.bool false]),
 ([.str [51,47,56],.str [45]],.tup [.str [51,47,56],.bool false]),
 ([.str [49,47,49,54],.str [45]],.tup [.str [49,47,49,54],.bool false]),
 ([.str [51,47,49,50,56],.str [45]],.tup [.str [51,47,49,50,56],.bool false]),
 ([.str [51,47,50,53,54],.str [45]],.tup [.str [51,47,50,53,54],.bool false])]
theorem zyf:FTabOK Tryz.prog 154 TAL154:=zaw (E:=E1) (n:=60) zaW zkt (zax can1) (zZ rfl) (by kernel_rfl)
def TAL155:List (List V×V):=[([.str [48],.str [47]],.tup [.str [48],.str [],.bool false]),
 ([.str [49],.str [47]],.tup [.str [49],.str [],.bool false]),
 ([.str [49,47,52],.str [47]],.tup [.str [49],.str [52],.bool true]),
 ([.str [49,47,50],.str [47]],.tup [.str [49],.str [50],.bool true]),
 ([.str [51,47,52],.str [47]],.tup [.str [51],.str [52],.bool true]),
 ([.str [51,47,49,54],.str [47]],.tup [.str [51],.str [49,54],.bool true]),
 ([.str [49,47,56],.str [47]],.tup [.str [49],.str [56],.bool true]),
 ([.str [49,47,51,50],.str [47]],.tup [.str [49],.str [51,50],.bool true]),
 ([.str [51,47,56],.str [47]],.tup [.str [51],.str [56],.bool true]),
 ([.str [49,47,49,54],.str [47]],.tup [.str [49],.str [49,54],.bool true]),
 ([.str [51,47,49,50,56],.str [47]],.tup [.str [51],.str [49,50,56],.bool true]),
 ([.str [51,47,50,53,54],.str [47]],.tup [.str [51],.str [50,53,54],.bool true])]
theorem zye:FTabOK Tryz.prog 155 TAL155:=zaw (E:=E1) (n:=60) zaW zkt (zax can1) (zZ rfl) (by kernel_rfl)
def TAL128:List (List V×V):=[([.str [49]],.bool true),
 ([.str [48]],.bool true),
 ([.str [50]],.bool true),
 ([.str [51]],.bool true),
 ([.str [52]],.bool true),
 ([.str [49,54]],.bool true),
 ([.str [56]],.bool true)]
theorem zyl:FTabOK Tryz.prog 128 TAL128:=zaw (E:=E1) (n:=60) zaW zkt (zax can1) (zZ rfl) (by kernel_rfl)
def TTA0:Tab:=[(150,TAL150),(154,TAL154),(155,TAL155),(128,TAL128)]
theorem TTA0_ok:TabOK Tryz.prog TTA0:=TabOK.cons zyg (TabOK.cons zyf (TabOK.cons zye (TabOK.cons zyl (TabOK.nil))))
noncomputable def ETA0:ECfg:=zgk E1 TTA0
theorem zcq:∀ f args r,ETA0.Γ f args=some r→PCall Tryz.prog f args r:=zdV zkt TTA0_ok
end Go.Proofs

namespace Go.Proofs
open Go.Ab
def TAL115:List (List V×V):=[([.str [48],.str [49]],.tup [.str [48],.int .i64 0]),
 ([.str [49],.str [49]],.tup [.str [49],.int .i64 0]),
 ([.str [48],.str [52]],.tup [.str [48],.int .i64 0]),
 ([.str [49],.str [52]],.tup [.str [52],.int .i64 0]),
 ([.str [48],.str [50]],.tup [.str [48],.int .i64 0]),
 ([.str [49],.str [50]],.tup [.str [50],.int .i64 0]),
 ([.str [51],.str [49]],.tup [.str [51],.int .i64 0]),
 ([.str [49],.str [48]],.tup [.str [48],.int .i64 0]),
 ([.str [50],.str [49]],.tup [.str [50],.int .i64 0]),
 ([.str [49],.str [51]],.tup [.str [51],.int .i64 0]),
 ([.str [52],.str [52]],.tup [.str [49,54],.int .i64 0]),
 ([.str [48],.str [51]],.tup [.str [48],.int .i64 0]),
 ([.str [49],.str [49,54]],.tup [.str [49,54],.int .i64 0]),
 ([.str [50],.str [52]],.tup [.str [56],.int .i64 0]),
 ([.str [49],.str [56]],.tup [.str [56],.int .i64 0]),
 ([.str [48],.str [56]],.tup [.str [48],.int .i64 0]),
 ([.str [48],.str [48]],.tup [.str [48],.int .i64 0]),
 ([.str [52],.str [49]],.tup [.str [52],.int .i64 0]),
 ([.str [56],.str [52]],.tup [.str [51,50],.int .i64 0]),
 ([.str [48],.str [51,50]],.tup [.str [48],.int .i64 0]),
 ([.str [56],.str [49]],.tup [.str [56],.int .i64 0]),
 ([.str [51,50],.str [49]],.tup [.str [51,50],.int .i64 0]),
 ([.str [56],.str [50]],.tup [.str [49,54],.int .i64 0]),
 ([.str [48],.str [49,54]],.tup [.str [48],.int .i64 0]),
 ([.str [51],.str [48]],.tup [.str [48],.int .i64 0]),
 ([.str [56],.str [49,54]],.tup [.str [49,50,56],.int .i64 0]),
 ([.str [48],.str [49,50,56]],.tup [.str [48],.int .i64 0]),
 ([.str [49,50,56],.str [50]],.tup [.str [50,53,54],.int .i64 0]),
 ([.str [48],.str [50,53,54]],.tup [.str [48],.int .i64 0]),
 ([.str [49],.str [49,50,56]],.tup [.str [49,50,56],.int .i64 0]),
 ([.str [49],.str [50,53,54]],.tup [.str [50,53,54],.int .i64 0])]
theorem zym:FTabOK Tryz.prog 115 TAL115:=zaw (E:=ETA0) (n:=60) zaW zcq (zax can1) (zZ rfl) (by kernel_rfl)
def TAL156:List (List V×V):=[([.str [48],.str [48]],.tup [.str [48],.int .i64 0]),
 ([.str [48],.str [51]],.tup [.str [51],.int .i64 0])]
theorem zyd:FTabOK Tryz.prog 156 TAL156:=zaw (E:=ETA0) (n:=60) zaW zcq (zax can1) (zZ rfl) (by kernel_rfl)
def TAL157:List (List V×V):=[([.str [48],.str [48]],.int .i64 0),
 ([.str [48],.str [49]],.int .i64 (-1)),
 ([.str [49],.str [48]],.int .i64 1),
 ([.str [49],.str [49]],.int .i64 0),
 ([.str [49],.str [52]],.int .i64 (-1)),
 ([.str [49],.str [50]],.int .i64 (-1)),
 ([.str [51],.str [48]],.int .i64 1),
 ([.str [51],.str [52]],.int .i64 (-1)),
 ([.str [48],.str [51]],.int .i64 (-1))]
theorem zyc:FTabOK Tryz.prog 157 TAL157:=zaw (E:=ETA0) (n:=60) zaW zcq (zax can1) (zZ rfl) (by kernel_rfl)
def TAL158:List (List V×V):=[([.str [48],.str [48]],.tup [.str [48],.int .i64 0]),
 ([.str [49],.str [48]],.tup [.str [49],.int .i64 0]),
 ([.str [49],.str [49]],.tup [.str [48],.int .i64 0]),
 ([.str [52],.str [49]],.tup [.str [51],.int .i64 0]),
 ([.str [50],.str [49]],.tup [.str [49],.int .i64 0]),
 ([.str [51],.str [48]],.tup [.str [51],.int .i64 0]),
 ([.str [52],.str [51]],.tup [.str [49],.int .i64 0])]
theorem zyb:FTabOK Tryz.prog 158 TAL158:=zaw (E:=ETA0) (n:=60) zaW zcq (zax can1) (zZ rfl) (by kernel_rfl)
def TAL148:List (List V×V):=[([.str [48],.str [49]],.tup [.str [49],.int .i64 0]),
 ([.str [49],.str [49]],.tup [.str [49],.int .i64 0]),
 ([.str [49],.str [52]],.tup [.str [49],.int .i64 0]),
 ([.str [49],.str [50]],.tup [.str [49],.int .i64 0]),
 ([.str [51],.str [52]],.tup [.str [49],.int .i64 0]),
 ([.str [48],.str [50]],.tup [.str [50],.int .i64 0]),
 ([.str [51],.str [49,54]],.tup [.str [49],.int .i64 0]),
 ([.str [48],.str [49,54]],.tup [.str [49,54],.int .i64 0]),
 ([.str [49],.str [56]],.tup [.str [49],.int .i64 0]),
 ([.str [49],.str [51,50]],.tup [.str [49],.int .i64 0]),
 ([.str [48],.str [52]],.tup [.str [52],.int .i64 0]),
 ([.str [48],.str [56]],.tup [.str [56],.int .i64 0]),
 ([.str [48],.str [51,50]],.tup [.str [51,50],.int .i64 0]),
 ([.str [51],.str [56]],.tup [.str [49],.int .i64 0]),
 ([.str [49],.str [49,54]],.tup [.str [49],.int .i64 0]),
 ([.str [51],.str [49,50,56]],.tup [.str [49],.int .i64 0]),
 ([.str [51],.str [50,53,54]],.tup [.str [49],.int .i64 0])]
theorem zyi:FTabOK Tryz.prog 148 TAL148:=zaw (E:=ETA0) (n:=60) zaW zcq (zax can1) (zZ rfl) (by kernel_rfl)
def TAL181:List (List V×V):=[([.str [48],.str [50]],.tup [.str [48],.str [48],.int .i64 0]),
 ([.str [50],.str [50]],.tup [.str [49],.str [48],.int .i64 0]),
 ([.str [48],.str [49]],.tup [.str [48],.str [48],.int .i64 0]),
 ([.str [49],.str [49]],.tup [.str [49],.str [48],.int .i64 0]),
 ([.str [51],.str [49]],.tup [.str [51],.str [48],.int .i64 0]),
 ([.str [49,54],.str [49]],.tup [.str [49,54],.str [48],.int .i64 0]),
 ([.str [48],.str [49,54]],.tup [.str [48],.str [48],.int .i64 0]),
 ([.str [49,54],.str [49,54]],.tup [.str [49],.str [48],.int .i64 0]),
 ([.str [56],.str [49]],.tup [.str [56],.str [48],.int .i64 0]),
 ([.str [52],.str [49]],.tup [.str [52],.str [48],.int .i64 0]),
 ([.str [51,50],.str [49]],.tup [.str [51,50],.str [48],.int .i64 0]),
 ([.str [48],.str [52]],.tup [.str [48],.str [48],.int .i64 0]),
 ([.str [52],.str [52]],.tup [.str [49],.str [48],.int .i64 0]),
 ([.str [48],.str [56]],.tup [.str [48],.str [48],.int .i64 0]),
 ([.str [56],.str [56]],.tup [.str [49],.str [48],.int .i64 0]),
 ([.str [48],.str [51,50]],.tup [.str [48],.str [48],.int .i64 0]),
 ([.str [51,50],.str [51,50]],.tup [.str [49],.str [48],.int .i64 0]),
 ([.str [50],.str [49]],.tup [.str [50],.str [48],.int .i64 0]),
 ([.str [49,50,56],.str [49]],.tup [.str [49,50,56],.str [48],.int .i64 0]),
 ([.str [50,53,54],.str [49]],.tup [.str [50,53,54],.str [48],.int .i64 0])]
theorem zya:FTabOK Tryz.prog 181 TAL181:=zaw (E:=ETA0) (n:=60) zaW zcq (zax can1) (zZ rfl) (by kernel_rfl)
def TAL89:List (List V×V):=[([.str [49],.str [49]],.tup [.str [49],.int .i64 0]),
 ([.str [48],.str [49]],.tup [.str [48],.int .i64 0]),
 ([.str [48],.str [50]],.tup [.str [48],.int .i64 0]),
 ([.str [51],.str [49]],.tup [.str [51],.int .i64 0]),
 ([.str [48],.str [52]],.tup [.str [48],.int .i64 0]),
 ([.str [48],.str [49,54]],.tup [.str [48],.int .i64 0]),
 ([.str [49],.str [50]],.tup [.str [50],.int .i64 0]),
 ([.str [49],.str [51]],.tup [.str [51],.int .i64 0]),
 ([.str [50],.str [52]],.tup [.str [56],.int .i64 0]),
 ([.str [48],.str [56]],.tup [.str [48],.int .i64 0]),
 ([.str [56],.str [50]],.tup [.str [49,54],.int .i64 0])]
theorem TAL89_ok:FTabOK Tryz.prog 89 TAL89:=zaw (E:=ETA0) (n:=60) zaW zcq (zax can1) (zZ rfl) (by kernel_rfl)
def TAL88:List (List V×V):=[([.str [49],.str [48]],.tup [.str [49],.int .i64 0]),
 ([.str [51],.str [48]],.tup [.str [51],.int .i64 0]),
 ([.str [48],.str [48]],.tup [.str [48],.int .i64 0])]
theorem TAL88_ok:FTabOK Tryz.prog 88 TAL88:=zaw (E:=ETA0) (n:=60) zaW zcq (zax can1) (zZ rfl) (by kernel_rfl)
def TAL87:List (List V×V):=[([.str [49],.str [48]],.int .i64 1),
 ([.str [51],.str [48]],.int .i64 1),
 ([.str [48],.str [48]],.int .i64 0),
 ([.str [48],.str [49]],.int .i64 (-1)),
 ([.str [48],.str [51]],.int .i64 (-1))]
theorem TAL87_ok:FTabOK Tryz.prog 87 TAL87:=zaw (E:=ETA0) (n:=60) zaW zcq (zax can1) (zZ rfl) (by kernel_rfl)
def TAL129:List (List V×V):=[([.str [49],.str [49]],.tup [.str [49],.str [48],.int .i64 0]),
 ([.str [48],.str [49]],.tup [.str [48],.str [48],.int .i64 0]),
 ([.str [49],.str [50]],.tup [.str [48],.str [49],.int .i64 0]),
 ([.str [50],.str [49]],.tup [.str [50],.str [48],.int .i64 0]),
 ([.str [51],.str [52]],.tup [.str [48],.str [51],.int .i64 0]),
 ([.str [52],.str [51]],.tup [.str [49],.str [49],.int .i64 0]),
 ([.str [51],.str [49]],.tup [.str [51],.str [48],.int .i64 0]),
 ([.str [51],.str [49,54]],.tup [.str [48],.str [51],.int .i64 0]),
 ([.str [49,54],.str [51]],.tup [.str [53],.str [49],.int .i64 0]),
 ([.str [51],.str [56]],.tup [.str [48],.str [51],.int .i64 0]),
 ([.str [56],.str [51]],.tup [.str [50],.str [50],.int .i64 0]),
 ([.str [51],.str [50]],.tup [.str [49],.str [49],.int .i64 0]),
 ([.str [56],.str [49]],.tup [.str [56],.str [48],.int .i64 0]),
 ([.str [49,54],.str [49]],.tup [.str [49,54],.str [48],.int .i64 0])]
theorem zyk:FTabOK Tryz.prog 129 TAL129:=zaw (E:=ETA0) (n:=60) zaW zcq (zax can1) (zZ rfl) (by kernel_rfl)
def TTA1:Tab:=[(115,TAL115),(156,TAL156),(157,TAL157),(158,TAL158),(148,TAL148),(181,TAL181),(89,TAL89),(88,TAL88),(87,TAL87),(129,TAL129)]
theorem TTA1_ok:TabOK Tryz.prog TTA1:=TabOK.cons zym (TabOK.cons zyd (TabOK.cons zyc (TabOK.cons zyb (TabOK.cons zyi (TabOK.cons zya (TabOK.cons TAL89_ok (TabOK.cons TAL88_ok (TabOK.cons TAL87_ok (TabOK.cons zyk (TabOK.nil))))))))))
noncomputable def ETA1:ECfg:=zgk ETA0 TTA1
theorem zop:∀ f args r,ETA1.Γ f args=some r→PCall Tryz.prog f args r:=zdV zcq TTA1_ok
end Go.Proofs

namespace Go.Proofs
open Go.Ab
def TAL85:List (List V×V):=[([.str [49],.str [49]],.tup [.str [49],.int .i64 0]),
 ([.str [48],.str [49]],.tup [.str [49],.int .i64 0]),
 ([.str [49],.str [50]],.tup [.str [49],.int .i64 0]),
 ([.str [51],.str [52]],.tup [.str [49],.int .i64 0]),
 ([.str [51],.str [49,54]],.tup [.str [49],.int .i64 0]),
 ([.str [51],.str [56]],.tup [.str [49],.int .i64 0])]
theorem TAL85_ok:FTabOK Tryz.prog 85 TAL85:=zaw (E:=ETA1) (n:=60) zaW zop (zax can1) (zZ rfl) (by kernel_rfl)
def TAL149:List (List V×V):=[([.str [48],.str [50]],.str [48]),
 ([.str [50],.str [50]],.str [49]),
 ([.str [48],.str [49]],.str [48]),
 ([.str [49],.str [49]],.str [49]),
 ([.str [51],.str [49]],.str [51]),
 ([.str [49,54],.str [49]],.str [49,54]),
 ([.str [48],.str [49,54]],.str [48]),
 ([.str [49,54],.str [49,54]],.str [49]),
 ([.str [56],.str [49]],.str [56]),
 ([.str [52],.str [49]],.str [52]),
 ([.str [51,50],.str [49]],.str [51,50]),
 ([.str [48],.str [52]],.str [48]),
 ([.str [52],.str [52]],.str [49]),
 ([.str [48],.str [56]],.str [48]),
 ([.str [56],.str [56]],.str [49]),
 ([.str [48],.str [51,50]],.str [48]),
 ([.str [51,50],.str [51,50]],.str [49]),
 ([.str [50],.str [49]],.str [50]),
 ([.str [49,50,56],.str [49]],.str [49,50,56]),
 ([.str [50,53,54],.str [49]],.str [50,53,54])]
theorem zyh:FTabOK Tryz.prog 149 TAL149:=zaw (E:=ETA1) (n:=60) zaW zop (zax can1) (zZ rfl) (by kernel_rfl)
def TTA2:Tab:=[(85,TAL85),(149,TAL149)]
theorem TTA2_ok:TabOK Tryz.prog TTA2:=TabOK.cons TAL85_ok (TabOK.cons zyh (TabOK.nil))
noncomputable def ETA2:ECfg:=zgk ETA1 TTA2
theorem zdn:∀ f args r,ETA2.Γ f args=some r→PCall Tryz.prog f args r:=zdV zop TTA2_ok
end Go.Proofs

namespace Go.Proofs
open Go.Ab
def TAL69:List (List V×V):=[([.str [49,47,50],.str [48]],.tup [.str [48],.int .i64 0]),
 ([.str [49],.str [48]],.tup [.str [48],.int .i64 0]),
 ([.str [49,47,52],.str [51,47,52]],.tup [.str [51,47,49,54],.int .i64 0]),
 ([.str [48],.str [51,47,49,54]],.tup [.str [48],.int .i64 0]),
 ([.str [48],.str [49,47,50]],.tup [.str [48],.int .i64 0]),
 ([.str [49,47,50],.str [49,47,52]],.tup [.str [49,47,56],.int .i64 0]),
 ([.str [49],.str [49,47,56]],.tup [.str [49,47,56],.int .i64 0]),
 ([.str [48],.str [49]],.tup [.str [48],.int .i64 0]),
 ([.str [48],.str [48]],.tup [.str [48],.int .i64 0]),
 ([.str [49,47,52],.str [49]],.tup [.str [49,47,52],.int .i64 0]),
 ([.str [49,47,56],.str [49,47,52]],.tup [.str [49,47,51,50],.int .i64 0]),
 ([.str [49,47,52],.str [48]],.tup [.str [48],.int .i64 0]),
 ([.str [49,47,56],.str [48]],.tup [.str [48],.int .i64 0]),
 ([.str [49,47,51,50],.str [48]],.tup [.str [48],.int .i64 0]),
 ([.str [49,47,50],.str [51,47,52]],.tup [.str [51,47,56],.int .i64 0]),
 ([.str [49],.str [51,47,56]],.tup [.str [51,47,56],.int .i64 0]),
 ([.str [51,47,56],.str [49,47,50]],.tup [.str [51,47,49,54],.int .i64 0]),
 ([.str [49,47,50],.str [49]],.tup [.str [49,47,50],.int .i64 0]),
 ([.str [49],.str [49,47,50]],.tup [.str [49,47,50],.int .i64 0]),
 ([.str [49],.str [51,47,52]],.tup [.str [51,47,52],.int .i64 0]),
 ([.str [51,47,56],.str [48]],.tup [.str [48],.int .i64 0]),
 ([.str [49],.str [49,47,52]],.tup [.str [49,47,52],.int .i64 0]),
 ([.str [48],.str [49,47,52]],.tup [.str [48],.int .i64 0]),
 ([.str [49,47,52],.str [49,47,52]],.tup [.str [49,47,49,54],.int .i64 0]),
 ([.str [51,47,56],.str [49,47,49,54]],.tup [.str [51,47,49,50,56],.int .i64 0]),
 ([.str [51,47,49,50,56],.str [49,47,50]],.tup [.str [51,47,50,53,54],.int .i64 0])]
theorem TAL69_ok:FTabOK Tryz.prog 69 TAL69:=zaw (E:=ETA2) (n:=60) zaW zdn (zax can1) (zZ rfl) (by kernel_rfl)
def TAL70:List (List V×V):=[([.str [48],.str [48]],.int .i64 0),
 ([.str [48],.str [49]],.int .i64 (-1)),
 ([.str [49],.str [48]],.int .i64 1),
 ([.str [49],.str [49]],.int .i64 0),
 ([.str [49,47,52],.str [48]],.int .i64 1),
 ([.str [49,47,52],.str [49]],.int .i64 (-1)),
 ([.str [49,47,50],.str [48]],.int .i64 1),
 ([.str [49,47,50],.str [49]],.int .i64 (-1)),
 ([.str [51,47,52],.str [48]],.int .i64 1),
 ([.str [51,47,52],.str [49]],.int .i64 (-1)),
 ([.str [48],.str [49,47,56]],.int .i64 (-1)),
 ([.str [48],.str [49,47,51,50]],.int .i64 (-1)),
 ([.str [48],.str [49,47,50]],.int .i64 (-1)),
 ([.str [48],.str [51,47,56]],.int .i64 (-1)),
 ([.str [51,47,56],.str [48]],.int .i64 1),
 ([.str [48],.str [51,47,49,54]],.int .i64 (-1)),
 ([.str [48],.str [51,47,49,50,56]],.int .i64 (-1)),
 ([.str [48],.str [51,47,50,53,54]],.int .i64 (-1))]
theorem TAL70_ok:FTabOK Tryz.prog 70 TAL70:=zaw (E:=ETA2) (n:=60) zaW zdn (zax can1) (zZ rfl) (by kernel_rfl)
def TAL72:List (List V×V):=[([.str [48],.str [48]],.tup [.str [48],.int .i64 0]),
 ([.str [48],.str [51,47,56]],.tup [.str [51,47,56],.int .i64 0]),
 ([.str [48],.str [51,47,49,54]],.tup [.str [51,47,49,54],.int .i64 0]),
 ([.str [48],.str [51,47,49,50,56]],.tup [.str [51,47,49,50,56],.int .i64 0]),
 ([.str [48],.str [51,47,50,53,54]],.tup [.str [51,47,50,53,54],.int .i64 0])]
theorem TAL72_ok:FTabOK Tryz.prog 72 TAL72:=zaw (E:=ETA2) (n:=60) zaW zdn (zax can1) (zZ rfl) (by kernel_rfl)
def TAL145:List (List V×V):=[([.str [48]],.bool true),
 ([.str [49]],.bool true),
 ([.str [49,47,52]],.bool true),
 ([.str [49,47,50]],.bool true),
 ([.str [51,47,52]],.bool true)]
theorem zyj:FTabOK Tryz.prog 145 TAL145:=zaw (E:=ETA2) (n:=60) zaW zdn (zax can1) (zZ rfl) (by kernel_rfl)
def TAL76:List (List V×V):=[([.str [49]],.bool true),
 ([.str [49,47,50]],.bool true),
 ([.str [51,47,52]],.bool true),
 ([.str [51,47,49,54]],.bool true),
 ([.str [48]],.bool true),
 ([.str [51,47,56]],.bool true)]
theorem TAL76_ok:FTabOK Tryz.prog 76 TAL76:=zaw (E:=ETA2) (n:=60) zaW zdn (zax can1) (zZ rfl) (by kernel_rfl)
def TAL79:List (List V×V):=[([.str [49],.str [49,47,50]],.tup [.str [49,47,50],.int .i64 0]),
 ([.str [49,47,50],.str [51,47,52]],.tup [.str [51,47,56],.int .i64 0]),
 ([.str [51,47,56],.str [49,47,50]],.tup [.str [51,47,49,54],.int .i64 0])]
theorem TAL79_ok:FTabOK Tryz.prog 79 TAL79:=zaw (E:=ETA2) (n:=60) zaW zdn (zax can1) (zZ rfl) (by kernel_rfl)
def TAL82:List (List V×V):=[([.bool false,.str [49],.str [50]],.tup [.str [49,47,50],.int .i64 0]),
 ([.bool false,.str [51],.str [56]],.tup [.str [51,47,56],.int .i64 0]),
 ([.bool false,.str [51],.str [49,54]],.tup [.str [51,47,49,54],.int .i64 0])]
theorem TAL82_ok:FTabOK Tryz.prog 82 TAL82:=zaw (E:=ETA2) (n:=60) zaW zdn (zax can1) (zZ rfl) (by kernel_rfl)
def TAL54:List (List V×V):=[([.str [49]],.tup [.bool false,.str [49],.str [49],.bool true]),
 ([.str [48]],.tup [.bool false,.str [48],.str [49],.bool true]),
 ([.str [49,47,50]],.tup [.bool false,.str [49],.str [50],.bool true]),
 ([.str [51,47,52]],.tup [.bool false,.str [51],.str [52],.bool true]),
 ([.str [51,47,49,54]],.tup [.bool false,.str [51],.str [49,54],.bool true]),
 ([.str [51,47,56]],.tup [.bool false,.str [51],.str [56],.bool true])]
theorem TAL54_ok:FTabOK Tryz.prog 54 TAL54:=zaw (E:=ETA2) (n:=60) zaW zdn (zax can1) (zZ rfl) (by kernel_rfl)
def TTA3:Tab:=[(69,TAL69),(70,TAL70),(72,TAL72),(145,TAL145),(76,TAL76),(79,TAL79),(82,TAL82),(54,TAL54)]
theorem TTA3_ok:TabOK Tryz.prog TTA3:=TabOK.cons TAL69_ok (TabOK.cons TAL70_ok (TabOK.cons TAL72_ok (TabOK.cons zyj (TabOK.cons TAL76_ok (TabOK.cons TAL79_ok (TabOK.cons TAL82_ok (TabOK.cons TAL54_ok (TabOK.nil))))))))
noncomputable def ETA3:ECfg:=zgk ETA2 TTA3
theorem ETA3_ok:∀ f args r,ETA3.Γ f args=some r→PCall Tryz.prog f args r:=zdV zdn TTA3_ok
end Go.Proofs

namespace Go.Proofs
open Go.Ab
theorem zxS:eAns ETA3 Tryz.prog 60 15 []=some (.bool true):=by kernel_rfl
theorem zsG:PCall Tryz.prog 15 [] (.ret (.bool true)):=zvR zaW ETA3_ok (zax can1) (zZ rfl) (fun x h=>by cases h) zxS
end Go.Proofs
