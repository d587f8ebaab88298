/- A statement whose order is open: the order of the text stands for all orders. -/
import Derived.Test.YthbimeikbkjnkaaGreatDoorAbRun
import Derived.Orders
set_option linter.all false
namespace Go.Ab
def Foot.idle(f:Foot):Bool:=f.R.isEmpty&&f.W.isEmpty&&f.lo==f.hi
def Foot.still(f:Foot):Bool:=f.W.isEmpty&&f.lo==f.hi
def maskOf(acc:List Nat)(o:Oper):Nat:=o.after.toList.foldl (fun m e=>if Region.binds .any e then m ||| 2 ^ e.on ||| acc.getD e.on 0 else m) 0
def zgj:List Oper→List Nat→List Nat
 |[],acc=>acc
 |o::os,acc=>zgj os (acc++[maskOf acc o])
def masks(ops:Array Oper):List Nat:=zgj ops.toList []
def ordB(ms:List Nat)(i j:Nat):Bool:=(ms.getD j 0).testBit i
inductive Bef(ops:Array Oper):Nat→Nat→Prop
 |edge {j:Nat} {o:Oper} {e:Edge} (ho:ops[j]? =some o) (he:e∈o.after.toList) (hb:Region.binds .any e=true):Bef ops e.on j
 |trans {i k j:Nat} (h:Bef ops i k) (h':Bef ops k j):Bef ops i j
theorem zhF(acc:List Nat)(i:Nat):∀(es:List Edge) (m:Nat),(es.foldl (fun m e=>if Region.binds .any e then m ||| 2 ^ e.on ||| acc.getD e.on 0 else m) m).testBit i=true→
 m.testBit i=true∨∃ e∈es,Region.binds .any e=true∧(e.on=i∨(acc.getD e.on 0).testBit i=true)
 |[],m,h=>.inl h
 |e::es,m,h=>by
  rw [List.foldl_cons]at h;rcases zhF acc i es _ h with h|⟨e',he',r⟩
  ·split at h
   ·rename_i hb;rw [Nat.testBit_or,Nat.testBit_or]at h;simp only [Bool.or_eq_true]at h;rcases h with(h|h)|h
    ·exact .inl h
    ·rw [Nat.testBit_two_pow]at h;exact .inr ⟨e,by simp,hb,.inl (by simpa using h)⟩
    ·exact .inr ⟨e,by simp,hb,.inr h⟩
   ·exact .inl h
  ·exact .inr ⟨e',by simp [he'],r⟩
theorem zem(ops:Array Oper):∀(os:List Oper) (acc:List Nat),ops.toList.drop acc.length=os→(∀ j i,(acc.getD j 0).testBit i=true→Bef ops i j)→
 ∀ j i,((zgj os acc).getD j 0).testBit i=true→Bef ops i j
 |[],acc,_,h=>h
 |o::os,acc,hd,h=>by
  have ho:ops[acc.length]? =some o:=by
   have:(ops.toList.drop acc.length)[0]? =some o:=by rw [hd];rfl
   rw [List.getElem?_drop]at this;rw [←Array.getElem?_toList];simpa using this
  refine zem ops os (acc++[maskOf acc o]) ?_ ?_
  ·rw [List.length_append, ←List.drop_drop,hd];rfl
  ·intro j i hb;by_cases hj:j<acc.length
   ·rw [List.getD_eq_getElem?_getD,List.getElem?_append_left hj, ←List.getD_eq_getElem?_getD]at hb;exact h j i hb
   ·rw [List.getD_eq_getElem?_getD,List.getElem?_append_right (Nat.le_of_not_lt hj), ←List.getD_eq_getElem?_getD]at hb;by_cases hj0:j - acc.length=0
    ·have hje:j=acc.length:=by omega
     subst hje;simp only [Nat.sub_self,List.getD_cons_zero]at hb;rcases zhF acc i _ _ hb with h0|⟨e,he,hbd,r⟩
     ·simp at h0
     ·rcases r with rfl|r
      ·exact .edge ho he hbd
      ·exact .trans (h _ _ r) (.edge ho he hbd)
    ·rw [List.getD_eq_getElem?_getD,List.getElem?_eq_none (by simp;omega)]at hb;simp at hb
theorem zck {ops:Array Oper}{i j:Nat}(h:ordB (masks ops) i j=true):Bef ops i j:=
 zem ops ops.toList [] rfl (fun j i h=>by simp at h) j i h
def zev:List Oper→Nat→Bool
 |[],_=>true
 |o::os,j=>(o.after.toList.all fun e=> !Region.binds .any e||decide (e.on<j))&&zev os (j+1)
def zeX(ops:Array Oper)(o:Oper):List Nat:=o.dst.toList++o.looksAt ops
def zfO(ops:Array Oper)(ms:List Nat)(os:List Oper)(j:Nat)(t k:Nat):Bool:=
 match os with
 |[]=>true
 |o::os=>(j==k|| !(zeX ops o).contains t||(if k<j then ordB ms k j else ordB ms j k))&&zfO ops ms os (j+1) t k
def zdx(ops:Array Oper)(ms:List Nat):List Oper→Nat→Bool
 |[],_=>true
 |o::os,k=>(match o.dst with|some t=>zfO ops ms ops.toList 0 t k|none=>true)&&zdx ops ms os (k+1)
def zcc(ops:Array Oper):Bool:=zev ops.toList 0&&zdx ops (masks ops) ops.toList 0
theorem ze9 {ops:Array Oper}:∀(os:List Oper) (j:Nat),ops.toList.drop j=os→zev os j=true→∀(k:Nat) (o:Oper) (e:Edge),j≤k→ops[k]? =some o→e∈o.after.toList→Region.binds .any e=true→e.on<k
 |[],j,hd,_,k,o,e,hk,ho,_,_=>by
  have:ops.toList.length≤j:=by simpa using hd
  have:k<ops.size:=(Array.getElem?_eq_some_iff.1 ho).1;simp at *; omega
 |o'::os,j,hd,h,k,o,e,hk,ho,he,hb=>by
  simp only [zev,Bool.and_eq_true]at h;by_cases hkj:k=j
  ·subst hkj;have:ops[k]? =some o':=by
    have:(ops.toList.drop k)[0]? =some o':=by rw [hd];rfl
    rw [List.getElem?_drop]at this;rw [←Array.getElem?_toList];simpa using this
   rw [ho]at this;cases this;have:=List.all_eq_true.1 h.1 e he;simp only [hb,Bool.not_true,Bool.false_or,decide_eq_true_eq]at this;exact this
  ·exact ze9 os (j+1) (by rw [←List.drop_drop,hd];rfl) h.2 k o e (by omega) ho he hb
theorem zhq {ops:Array Oper}{ms:List Nat}{t k:Nat}:∀(os:List Oper) (j:Nat),ops.toList.drop j=os→zfO ops ms os j t k=true→∀(i:Nat) (o:Oper),j≤i→ops[i]? =some o→i≠k→t∈zeX ops o→
 (k<i→ordB ms k i=true)∧(i<k→ordB ms i k=true)
 |[],j,hd,_,i,o,hi,ho,_,_=>by
  have:ops.toList.length≤j:=by simpa using hd
  have:i<ops.size:=(Array.getElem?_eq_some_iff.1 ho).1;simp at *; omega
 |o'::os,j,hd,h,i,o,hi,ho,hne,ht=>by
  simp only [zfO,Bool.and_eq_true]at h;by_cases hij:i=j
  ·subst hij;have:ops[i]? =some o':=by
    have:(ops.toList.drop i)[0]? =some o':=by rw [hd];rfl
    rw [List.getElem?_drop]at this;rw [←Array.getElem?_toList];simpa using this
   rw [ho]at this;obtain rfl:o=o':=Option.some.inj this;have h1:=h.1;have hb:(i==k)=false:=by simp [hne]
   have hc:(zeX ops o).contains t=true:=by simpa using ht
   simp only [hb,hc,Bool.not_true,Bool.false_or]at h1;constructor
   ·intro hlt;rw [if_pos hlt]at h1;exact h1
   ·intro hlt;rw [if_neg (by omega)]at h1;exact h1
  ·exact zhq os (j+1) (by rw [←List.drop_drop,hd];rfl) h.2 i o (by omega) ho hne ht
theorem zeb {ops:Array Oper}{ms:List Nat}:∀(os:List Oper) (j:Nat),ops.toList.drop j=os→zdx ops ms os j=true→∀(k:Nat) (ok:Oper) (t:Nat),j≤k→ops[k]? =some ok→ok.dst=some t→
 zfO ops ms ops.toList 0 t k=true
 |[],j,hd,_,i,o,t,hi,ho,_=>by
  have:ops.toList.length≤j:=by simpa using hd
  have:i<ops.size:=(Array.getElem?_eq_some_iff.1 ho).1;simp at *; omega
 |o'::os,j,hd,h,k,ok,t,hk,ho,ht=>by
  simp only [zdx,Bool.and_eq_true]at h;by_cases hkj:k=j
  ·subst hkj;have:ops[k]? =some o':=by
    have:(ops.toList.drop k)[0]? =some o':=by rw [hd];rfl
    rw [List.getElem?_drop]at this;rw [←Array.getElem?_toList];simpa using this
   rw [ho]at this;cases this;have h1:=h.1;rw [ht]at h1;exact h1
  ·exact zeb os (j+1) (by rw [←List.drop_drop,hd];rfl) h.2 k ok t (by omega) ho ht
theorem zhS {ops:Array Oper}(h:zcc ops=true){i k:Nat}{oi ok:Oper}{t:Nat}(hi:ops[i]? =some oi)(hk:ops[k]? =some ok)(hne:i≠k)(ht:ok.dst=some t)(hn:t∈zeX ops oi):
 (k<i→Bef ops k i)∧(i<k→Bef ops i k):=by
 simp only [zcc,Bool.and_eq_true]at h
 have h1:=zeb ops.toList 0 rfl h.2 k ok t (Nat.zero_le _) hk ht
 have h2:=zhq ops.toList 0 rfl h1 i oi (Nat.zero_le _) hi hne hn
 exact⟨fun e=>zck (h2.1 e),fun e=>zck (h2.2 e)⟩
theorem zgE {ops:Array Oper}(h:zcc ops=true){k:Nat}{o:Oper}{e:Edge}(ho:ops[k]? =some o)(he:e∈o.after.toList)(hb:Region.binds .any e=true):e.on<k:=by simp only [zcc,Bool.and_eq_true]at h;exact ze9 ops.toList 0 rfl h.1 k o e (Nat.zero_le _) ho he hb
theorem Bef.lt {ops:Array Oper}(h:zcc ops=true){i j:Nat}(b:Bef ops i j):i<j:=by
 induction b with
 |edge ho he hb=>exact zgE h ho he hb
 |trans _ _ ih1 ih2=>omega
def clash(f f':Foot):Bool:=
 (f.W.any fun b=>f'.R.contains b||f'.W.contains b||(decide (f'.lo≤b)&&decide (b<f'.hi)))||
 (f'.W.any fun b=>f.R.contains b||(decide (f.lo≤b)&&decide (b<f.hi)))||
 (f'.R.any fun b=>decide (f.lo≤b)&&decide (b<f.hi))||
 (f.R.any fun b=>decide (f'.lo≤b)&&decide (b<f'.hi))
def chkFull(ms:List Nat)(feet:List (Nat×Foot)):Bool:=
 feet.all fun p=>feet.all fun q=> !decide (p.1<q.1)|| !clash p.2 q.2||ordB ms p.1 q.1
def chk(ops:Array Oper)(feet:List (Nat×Foot)):Bool:=(feet.all fun p=>p.2.still)||chkFull (masks ops) feet
def zdl(ops:Array Oper)(i:Nat):Bool:=
 (List.range i).all (fun k=>ordB (masks ops) k i)&&((List.range ops.size).all fun k=>decide (k≤i)||ordB (masks ops) i k)
def accF(acc:List (Nat×Foot))(i:Nat)(f:Foot):List (Nat×Foot):=if f.idle=true then acc else(i,f)::acc
def DRun(C:Cfg)(P:Program)(ops:Array Oper):List Oper→Nat→St→List (Nat×Foot)→(Out→St→Prop)→Prop
 |[],_,s,acc,K=>chk ops acc=true∧K .norm s
 |o::os,i,s,acc,K=>
  match o.guard with
  |none=>fol C (step1 C P s.env o.op s.h) (fun v h f=>DRun C P ops os (i+1) ((s.put o.dst v).hp h) (accF acc i f) K) (fun v=>zdl ops i=true∧chk ops acc=true∧K (.panic v) s)
  |some _=>
   match gval ops s.env o with
   |some gb=>folG C gb (step1 C P s.env o.op s.h) s.h (fun v h f=>DRun C P ops os (i+1) ((s.put o.dst v).hp h) (accF acc i f) K) (fun v=>zdl ops i=true∧chk ops acc=true∧K (.panic v) s)
   |none=>False
end Go.Ab
