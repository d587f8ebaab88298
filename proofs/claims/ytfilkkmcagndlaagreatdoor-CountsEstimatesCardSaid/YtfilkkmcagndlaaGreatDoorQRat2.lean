/- rat: parse, Valid, Cmp. -/
import Derived.Test.YtfilkkmcagndlaaGreatDoorQFmt
import Derived.Test.YtfilkkmcagndlaaGreatDoorF3b
import Derived.Test.YtfilkkmcagndlaaGreatDoorVS
import Derived.Test.YtfilkkmcagndlaaGreatDoorRIns
import Derived.Test.YtfilkkmcagndlaaGreatDoorWRow
import Derived.Test.YtfilkkmcagndlaaGreatDoorPlCnt
import Derived.Test.YtfilkkmcagndlaaGreatDoorAbMapS
import Derived.Test.YtfilkkmcagndlaaGreatDoorAbHeap
set_option linter.all false
namespace Go.Proofs
open Go.Ab Go.Pl
attribute [go_sem] List.getElem?_cons_zero List.getElem?_cons_succ
def numV(s:Bool)(n d:List UInt8):V:=.agg [.bool s,.str n,.str d]
def zeC(a:List UInt8):V:=match ratP a with
 |some (s,n,d)=>.tup [numV s (dec n) (dec d),.bool true]
 |none=>.tup [numV false [] [],.bool false]
def zfe(neg:Bool)(n d:List UInt8)(fr:Bool):V:=if zca neg n d fr=true then .tup [numV neg n d,.bool true]else .tup [numV false [] [],.bool false]
theorem zm6(a:List UInt8):zeC a=zfe (zI a).1 (zI a).2.1 (zI a).2.2.1 (zI a).2.2.2:=by
 unfold zeC zfe ratP;split
 ·rename_i h;split at h
  ·rename_i hk;simp only [Option.some.injEq,Prod.mk.injEq]at h;obtain⟨rfl,rfl,rfl⟩:=h;rw [if_pos hk];simp only [zca,Bool.and_eq_true]at hk;rw [zaA (shortN_iff.1 hk.1.1.1.1).1,zaA (shortN_iff.1 hk.1.1.1.2).1]
  ·cases h
 ·rename_i h;split at h
  ·cases h
  ·rename_i hk;rw [if_neg hk]
theorem zj7 {a:List UInt8}{neg:Bool}{r:List UInt8}{i:Nat}(h1:decide (a.getD 0 0=45)=neg)(h2:r=if neg=true then a.drop 1 else a)(h3:r.findIdx? (· ==47)=some i):zeC a=zfe neg (r.take i) (r.drop (i+1)) true:=by
 rw [zm6];have:zI a=(neg,r.take i,r.drop (i+1),true):=by unfold zI;simp only;rw [h1, ←h2,h3]
 rw [this]
theorem zj8 {a:List UInt8}{neg:Bool}{r:List UInt8}(h1:decide (a.getD 0 0=45)=neg)(h2:r=if neg=true then a.drop 1 else a)(h3:r.findIdx? (· ==47)=none):zeC a=zfe neg r [49] false:=by
 rw [zm6];have:zI a=(neg,r,[49],false):=by unfold zI;simp only;rw [h1, ←h2,h3]
 rw [this]
theorem zht {neg:Bool}{n d:List UInt8}{fr:Bool}(h:zca neg n d fr=true):zfe neg n d fr=.tup [numV neg n d,.bool true]:=if_pos h
theorem zbv {neg:Bool}{n d:List UInt8}{fr:Bool}(h:zca neg n d fr=false):zfe neg n d fr=.tup [numV false [] [],.bool false]:=if_neg (by rw [h];decide)
theorem pref45(a:List UInt8):List.isPrefixOf [45] a=decide (a.getD 0 0=45):=by
 rcases a with _|⟨c,a⟩
 ·rfl
 ·show (45==c&&true)=decide (c=45);rw [Bool.and_true,Bool.eq_iff_iff];simp only [beq_iff_eq,decide_eq_true_eq];exact eq_comm
theorem zgt(n d:List UInt8):(!zL n|| !zL d||decide (400<(n.length:Int))||decide (400<(d.length:Int)))= !(zaQ n&&zaQ d):=by
 rw [Bool.eq_iff_iff];simp only [zaQ,Bool.or_eq_true,Bool.not_eq_true',Bool.and_eq_false_imp,decide_eq_true_eq,Bool.and_eq_true,decide_eq_false_iff_not];constructor
 ·rintro(((h|h)|h)|h) h1 h2
  ·rw [h]at h1;exact absurd h1.1 (by decide)
  ·rw [h]at h2;exact absurd h2 (by decide)
  ·omega
  ·omega
 ·intro h;by_cases h1:zL n=true
  ·by_cases h2:zL d=true
   ·by_cases h3:n.length≤400
    ·have:=h ⟨h1,h3⟩ h2;exact .inr (by omega)
    ·exact .inl (.inr (by omega))
   ·exact .inl (.inl (.inr (by simpa using h2)))
  ·exact .inl (.inl (.inl (by simpa using h1)))
theorem zmK(n:List UInt8):(!zL n||decide (400<(n.length:Int)))= !zaQ n:=by
 have:=zgt n [49];have h1:zL [49]=true:=by decide
 have h2:decide (400<(([49]:List UInt8).length:Int))=false:=by decide
 rw [h1,h2,s49,Bool.not_true,Bool.or_false,Bool.or_false,Bool.and_true]at this;exact this
set_option maxHeartbeats 8000000 in
set_option maxRecDepth 100000 in
theorem parse_ok(a:List UInt8)(hl:a.length≤1000000000):PCall Tryz.prog 55 [.str a] (.ret (zeC a)):=by
 have hΓ:=zf zqs (zf cCut_ok (zf zc8 (zf zr8 zh)));refine PCall.walk (rs:=[.cell 2 87,.tmp 3]) [0,2,3,4,5,6,7,8,9,10,23,41,58,71] [] mixed (hΓ) (zg) call55 Tryz.func55 rfl Tryz.ntmps55 rfl (by kernel_rfl) (by simp) (by simp [push_cast]) ?_;by_cases hneg:a.getD 0 0=45
 ·have hq:=decide_eq_true hneg;have hr:(a.drop 1).length≤1000000000:=by first|exact hl|(simp;omega)
  have p1:=fun i=>zj7 (r:=a.drop 1) (i:=i) hq rfl;have p2:=zj8 (r:=a.drop 1) hq rfl;have hcp:zbG a [45]=.tup [.str (a.drop 1),.bool true]:=by unfold zbG;rw [pref45,hq];rfl
  simp (disch:=first|assumption|(push_cast<;>omega)|omega) only [go_sem,hcp];generalize a.drop 1=r at*;cases hf:r.findIdx? (· ==47)with
  |some i=>
   rw [p1 i hf];have hct:cutV r 47=.tup [.str (r.take i),.str (r.drop (i+1)),.bool true]:=by unfold cutV;rw [hf]
   generalize r.take i=n at*;generalize r.drop (i+1)=d at*;simp only [go_sem,hct];rw [zgt];by_cases h1:zaQ n=true
   case neg=>
    rw [zbv (zex h1)]
    simp only [go_sem,h1,Bool.false_and,numV]
    exact .pure (by simp [zad,zT,zac])
   by_cases h2:zaQ d=true
   case neg=>
    rw [zbv (zlc h2)]
    simp only [go_sem,h1,h2,Bool.and_false,numV]
    exact .pure (by simp [zad,zT,zac])
   by_cases h4:d=[48]
   ·rw [h4,zbv zhq];simp only [go_sem,h1,s48,Bool.and_self,numV];exact .pure (by simp [zad,zT,zac])
   by_cases h5:d=[49]
   ·rw [h5,zbv zhp];simp only [go_sem,h1,s49,Bool.and_self,numV];first
     |exact .pure (by simp [zad,zT,zac])
     |exact⟨fun h=>⟨h,fun _=>by rw [h];rfl⟩,.pure (by simp [zad,zT,zac])⟩
   by_cases h3:n=[48]
   ·rw [h3,zbv (zho h2 h5)];have hg:decide (Nat.gcd (valD [48]) (valD d)=1)=false:=by rw [decide_eq_false_iff_not,show valD [48]=0 from rfl,Nat.gcd_zero_left];intro e;have hv:=zaA (shortN_iff.1 h2).1;rw [e]at hv;exact h5 hv.symm
    simp only [go_sem,s48,h2,h4,h5,Bool.and_self,numV,zej (shortN_iff.1 s48).1 (shortN_iff.1 h2).1,za4,hg];exact .pure (by simp [zad,zT,zac])
   simp only [go_sem,h1,h2,h3,h4,h5,zej (shortN_iff.1 h1).1 (shortN_iff.1 h2).1,za4,Bool.and_self];refine AXc.introN (fun h6=>?_) (fun h6=>?_)
   ·rw [zbv (by rw [zey h1 h2 h3 h4 h5];simpa using h6)];simp only [go_sem,numV];exact .pure (by simp [zad,zT,zac])
   ·rw [zht (by rw [zey h1 h2 h3 h4 h5];simpa using h6)];simp only [go_sem,numV];exact .pure (by simp [zad,zT,zac])
  |none=>
   rw [p2 hf];have hct:cutV r 47=.tup [.str r,.str [],.bool false]:=by unfold cutV;rw [hf]
   have v49:zL [49]=true:=by decide
   simp only [go_sem,hct,v49];rw [zmK];by_cases h1:zaQ r=true
   case neg=>
    rw [zbv (zex h1)]
    simp only [go_sem,h1,numV]
    exact .pure (by simp [zad,zT,zac])
   have g1:decide (Nat.gcd (valD r) (valD [49])=1)=true:=by rw [decide_eq_true_eq,show valD [49]=1 from rfl,Nat.gcd_one_right]
   by_cases h3:r=[48]
   ·have hq2:zfe true r [49] false=if true=true then .tup [numV false [] [],.bool false]else .tup [numV true r [49],.bool true]:=by
     unfold zfe
     rw [zfl h1,h3]
     rfl
    rw [hq2]
    rw [h3]at g1 ⊢
    simp only [go_sem,s48,numV,zej (shortN_iff.1 s48).1 (shortN_iff.1 s49).1,za4,g1,if_true,Bool.false_eq_true,if_false]
    exact .pure (by simp [zad,zT,zac])
   ·rw [zht (by rw [zfl h1];simp [h3])];simp only [go_sem,h1,h3,numV,zej (shortN_iff.1 h1).1 (shortN_iff.1 s49).1,za4,g1];exact .pure (by simp [zad,zT,zac])
 ·have hq:=decide_eq_false hneg;have hr:(a).length≤1000000000:=by first|exact hl|(simp;omega)
  have p1:=fun i=>zj7 (r:=a) (i:=i) hq rfl;have p2:=zj8 (r:=a) hq rfl;have hcp:zbG a [45]=.tup [.str (a),.bool false]:=by unfold zbG;rw [pref45,hq];rfl
  simp (disch:=first|assumption|(push_cast<;>omega)|omega) only [go_sem,hcp];generalize a=r at*;cases hf:r.findIdx? (· ==47)with
  |some i=>
   rw [p1 i hf];have hct:cutV r 47=.tup [.str (r.take i),.str (r.drop (i+1)),.bool true]:=by unfold cutV;rw [hf]
   generalize r.take i=n at*;generalize r.drop (i+1)=d at*;simp only [go_sem,hct];rw [zgt];by_cases h1:zaQ n=true
   case neg=>
    rw [zbv (zex h1)]
    simp only [go_sem,h1,Bool.false_and,numV]
    exact .pure (by simp [zad,zT,zac])
   by_cases h2:zaQ d=true
   case neg=>
    rw [zbv (zlc h2)]
    simp only [go_sem,h1,h2,Bool.and_false,numV]
    exact .pure (by simp [zad,zT,zac])
   by_cases h4:d=[48]
   ·rw [h4,zbv zhq];simp only [go_sem,h1,s48,Bool.and_self,numV];exact .pure (by simp [zad,zT,zac])
   by_cases h5:d=[49]
   ·rw [h5,zbv zhp];simp only [go_sem,h1,s49,Bool.and_self,numV];first
     |exact .pure (by simp [zad,zT,zac])
     |exact⟨fun h=>⟨h,fun _=>by rw [h];rfl⟩,.pure (by simp [zad,zT,zac])⟩
   by_cases h3:n=[48]
   ·rw [h3,zbv (zho h2 h5)];have hg:decide (Nat.gcd (valD [48]) (valD d)=1)=false:=by rw [decide_eq_false_iff_not,show valD [48]=0 from rfl,Nat.gcd_zero_left];intro e;have hv:=zaA (shortN_iff.1 h2).1;rw [e]at hv;exact h5 hv.symm
    simp only [go_sem,s48,h2,h4,h5,Bool.and_self,numV,zej (shortN_iff.1 s48).1 (shortN_iff.1 h2).1,za4,hg];exact .pure (by simp [zad,zT,zac])
   simp only [go_sem,h1,h2,h3,h4,h5,zej (shortN_iff.1 h1).1 (shortN_iff.1 h2).1,za4,Bool.and_self];refine AXc.introN (fun h6=>?_) (fun h6=>?_)
   ·rw [zbv (by rw [zey h1 h2 h3 h4 h5];simpa using h6)];simp only [go_sem,numV];exact .pure (by simp [zad,zT,zac])
   ·rw [zht (by rw [zey h1 h2 h3 h4 h5];simpa using h6)];simp only [go_sem,numV];exact .pure (by simp [zad,zT,zac])
  |none=>
   rw [p2 hf];have hct:cutV r 47=.tup [.str r,.str [],.bool false]:=by unfold cutV;rw [hf]
   have v49:zL [49]=true:=by decide
   simp only [go_sem,hct,v49];rw [zmK];by_cases h1:zaQ r=true
   case neg=>
    rw [zbv (zex h1)]
    simp only [go_sem,h1,numV]
    exact .pure (by simp [zad,zT,zac])
   have g1:decide (Nat.gcd (valD r) (valD [49])=1)=true:=by rw [decide_eq_true_eq,show valD [49]=1 from rfl,Nat.gcd_one_right]
   by_cases h3:r=[48]
   ·have hq2:zfe false r [49] false=if false=true then .tup [numV false [] [],.bool false]else .tup [numV false r [49],.bool true]:=by
     unfold zfe
     rw [zfl h1,h3]
     rfl
    rw [hq2]
    rw [h3]at g1 ⊢
    simp only [go_sem,s48,numV,zej (shortN_iff.1 s48).1 (shortN_iff.1 s49).1,za4,g1,if_true,Bool.false_eq_true,if_false]
    exact .pure (by simp [zad,zT,zac])
   ·rw [zht (by rw [zfl h1];simp [h3])];simp only [go_sem,h1,h3,numV,zej (shortN_iff.1 h1).1 (shortN_iff.1 s49).1,za4,g1];exact .pure (by simp [zad,zT,zac])
end Go.Proofs

namespace Go.Proofs
open Go.Ab Go.Pl
theorem parseV_s {a:List UInt8}{s:Bool}{n d:Nat}(hr:ratP a=some (s,n,d)):zeC a=.tup [.agg [.bool s,.str (dec n),.str (dec d)],.bool true]:=by unfold zeC;generalize ratP a=q at hr;subst hr;rfl
theorem parseV_n {a:List UInt8}(hr:ratP a=none):zeC a=.tup [.agg [.bool false,.str [],.str []],.bool false]:=by unfold zeC;generalize ratP a=q at hr;subst hr;rfl
noncomputable def zr7:List V→Option PR:=zH (fun a:List UInt8=>[.str a]) (fun a=>a.length≤1000000000) fun a=>.ret (zeC a)
theorem zoh(a:List UInt8)(h:a.length≤1000000000):zr7 [.str a]=some (.ret (zeC a)):=zn (pat:=fun a:List UInt8=>[V.str a]) (fun x y h=>by simpa using h) a h
theorem zeP:∀ args r,zr7 args=some r→PCall Tryz.prog 55 args r:=zo fun a h=>parse_ok a h
@[go_sem] theorem cParse_s {a:List UInt8}{s:Bool}{n d:Nat}(hr:ratP a=some (s,n,d))(h:a.length≤1000000000):zr7 [.str a]=some (.ret (.tup [.agg [.bool s,.str (dec n),.str (dec d)],.bool true])):=
 (zoh a h).trans (congrArg (fun v=>some (PR.ret v)) (parseV_s hr))
@[go_sem] theorem cParse_n {a:List UInt8}(hr:ratP a=none)(h:a.length≤1000000000):zr7 [.str a]=some (.ret (.tup [.agg [.bool false,.str [],.str []],.bool false])):=
 (zoh a h).trans (congrArg (fun v=>some (PR.ret v)) (parseV_n hr))
theorem zpc(a:List UInt8)(h:a.length≤1000000000):PCall Tryz.prog 32 [.str a] (.ret (.bool (ratP a).isSome)):=by
 refine PCall.walk (rs:=[.tmp 2]) [0,2] [] mixed (zf zeP zh) (zg) call32 Tryz.func32 rfl Tryz.ntmps32 rfl (by kernel_rfl) (by simp) (by simp [push_cast]) ?_;cases hr:ratP a with
 |none=>simp (disch:=first|assumption|(push_cast<;>omega)|omega) only [go_sem,hr,Option.isSome_none]
 |some q=>
  obtain⟨s,n,d⟩:=q;simp (disch:=first|assumption|(push_cast<;>omega)|omega) only [go_sem,hr,Option.isSome_some]
noncomputable def ziY:List V→Option PR:=zH (fun a:List UInt8=>[.str a]) (fun a=>a.length≤1000000000) fun a=>.ret (.bool (ratP a).isSome)
@[go_sem] theorem zob(a:List UInt8)(h:a.length≤1000000000):ziY [.str a]=some (.ret (.bool (ratP a).isSome)):=zn (pat:=fun a:List UInt8=>[V.str a]) (fun x y h=>by simpa using h) a h
theorem zg5:∀ args r,ziY args=some r→PCall Tryz.prog 32 args r:=zo fun a h=>zpc a h
set_option maxHeartbeats 8000000 in
set_option maxRecDepth 100000 in
theorem zwO(a b:List UInt8)(la:a.length≤1000000000)(lb:b.length≤1000000000):PCall Tryz.prog 33 [.str a,.str b] (.ret (.int .i64 (zdz a b))):=by
 have hΓ:=zf zeP (zf zhH (zf zek (zf zge zh)));refine PCall.walk (rs:=[.tmp 4]) [0,1,4,5,6,7,8,9,10,26,52,55] [] mixed (hΓ) (zg) call33 Tryz.func33 rfl Tryz.ntmps33 rfl (by kernel_rfl) (by simp) (by simp [push_cast]) ?_;cases ha:ratP a with
 |none=>
  rw [zm0 b ha];cases hb:ratP b with
  |none=>simp (disch:=first|assumption|(push_cast<;>omega)|omega) only [go_sem,ha,hb]
  |some y=>
   obtain⟨q,n,f⟩:=y;simp (disch:=first|assumption|(push_cast<;>omega)|omega) only [go_sem,ha,hb]
 |some x=>
  obtain⟨p,m,d⟩:=x;cases hb:ratP b with
  |none=>
   rw [zmZ a hb];simp (disch:=first|assumption|(push_cast<;>omega)|omega) only [go_sem,ha,hb]
  |some y=>
   obtain⟨q,n,f⟩:=y;rw [zld ha hb];obtain⟨lm,ld,_⟩:=zbg ha;obtain⟨ln,lf,_⟩:=zbg hb;have l1:=zC lm lf;have l2:=zC ln ld;simp (disch:=first|assumption|(push_cast<;>omega)|omega) only [go_sem,ha,hb];refine AXk.intro (by kernel_rfl) ?_;have hz:decide (dec (sumS p (m*f) (!q) (n*d)).2=[48])=decide ((sumS p (m*f) (!q) (n*d)).2=0):=by simp only [dec_is_zero]
   simp (disch:=first|assumption|(push_cast<;>omega)|omega) only [go_sem];rw [hz];refine AXc.introP (fun h1=>?_) (fun h1=>?_)
   ·simp (disch:=first|assumption|(push_cast<;>omega)|omega) only [go_sem,h1]
   ·cases h2:(sumS p (m*f) (!q) (n*d)).1
    ·simp (disch:=first|assumption|(push_cast<;>omega)|omega) only [go_sem,h1,h2,Bool.false_eq_true]
    ·simp (disch:=first|assumption|(push_cast<;>omega)|omega) only [go_sem,h1,h2]
noncomputable def zqh:List V→Option PR:=zH (fun p:List UInt8×List UInt8=>[.str p.1,.str p.2]) (fun p=>p.1.length≤1000000000∧p.2.length≤1000000000) (fun p=>.ret (.int .i64 (zdz p.1 p.2)))
theorem zu5:∀ args r,zqh args=some r→PCall Tryz.prog 33 args r:=zo fun p h=>zwO p.1 p.2 h.1 h.2
@[go_sem] theorem zu6(a b:List UInt8)(la:a.length≤1000000000)(lb:b.length≤1000000000):zqh [.str a,.str b]=some (.ret (.int .i64 (zdz a b))):=zn (fun p q h=>by simp at h;exact Prod.ext h.1 h.2) (a,b) ⟨la,lb⟩
end Go.Proofs

namespace Go.Proofs
open Go.Ab Go.Cnt Go.Pl
end Go.Proofs

namespace Go.Proofs
open Go.Ab Go.Cnt Go.Pl
def zcC(l:List Ent):List Str:=l.flatMap fun e=>[e.1.1,e.1.2]
def tagL(A B:List Ent):List Str:=zcC A++B.map fun e=>e.1.1
def zaq(B:List Ent):List Str:=B.map fun e=>e.1.2
theorem zby:∀(l:List Ent) (i:Nat),i<l.length→l.take (i+1)=l.take i++[nthE l i]
 |[],_,h=>by simp at h
 |e::l,0,_=>rfl
 |e::l,i+1,h=>by have:=zby l i (by simpa using h);rw [List.take_succ_cons,this,List.take_succ_cons,List.cons_append];rfl
theorem zhw(L:List Str)(x:Str):nmS (L++[x])=addS (nmS L) x:=by simp [nmS]
theorem zre {L:List Str}(hl:L.length≤1000000)(hs:zcV L):zmt (nmS L):=⟨Nat.le_trans (zit L) hl,zlD L,fun s h=>hs s (mem_nmS.1 h).1⟩
theorem zc3(l:List Ent):(zcC l).length=2*l.length:=by
 induction l with
 |nil=>rfl
 |cons e l ih=>rw [zcC,List.flatMap_cons,List.length_append, ←zcC,ih];simp;omega
theorem znP(l r:List Ent):zcC (l++r)=zcC l++zcC r:=by simp [zcC]
theorem zgv {l:List Ent}(h:zaG l)(i:Nat):(nthE l i).1.1.length≤1000000∧(nthE l i).1.2.length≤1000000:=by
 by_cases hi:i<l.length
 ·exact h _ (zcq hi)
 ·rw [nthE,zba _ _ _ (by omega)];exact⟨Nat.zero_le _,Nat.zero_le _⟩
theorem zft {l:List Ent}(h:zaG l):zcV (zcC l):=fun s hs=>by
 obtain⟨e,he,hs⟩:=List.mem_flatMap.1 hs;simp only [List.mem_cons,List.not_mem_nil,or_false]at hs;rcases hs with rfl|rfl
 ·exact(h e he).1
 ·exact(h e he).2
def tN(A:List Ent)(i:Nat):List Str:=nmS (zcC (A.take i))
def tE(A B:List Ent)(i:Nat):List Str:=nmS (zcC A++(B.take i).map fun e=>e.1.1)
def wE(B:List Ent)(i:Nat):List Str:=nmS ((B.take i).map fun e=>e.1.2)
theorem tN_mid(A:List Ent)(i:Nat):addS (tN A i) (nthE A i).1.1=nmS (zcC (A.take i)++[(nthE A i).1.1]):=(zhw _ _).symm
theorem tN_step(A:List Ent)(i:Nat)(h:i<A.length):tN A (i+1)=addS (addS (tN A i) (nthE A i).1.1) (nthE A i).1.2:=by rw [tN_mid, ←zhw,tN,zby A i h,znP];simp [zcC]
theorem tE_step(A B:List Ent)(i:Nat)(h:i<B.length):tE A B (i+1)=addS (tE A B i) (nthE B i).1.1:=by rw [tE,tE, ←zhw,zby B i h,List.map_append,List.append_assoc];rfl
theorem wE_step(B:List Ent)(i:Nat)(h:i<B.length):wE B (i+1)=addS (wE B i) (nthE B i).1.2:=by rw [wE,wE, ←zhw,zby B i h,List.map_append];rfl
theorem ze0 {l:List Ent}(h:zaG l)(i:Nat):zaG (l.take i):=fun e he=>h e (List.mem_of_mem_take he)
theorem zh8 {a b:List Str}(ha:zcV a)(hb:zcV b):zcV (a++b):=fun s h=>(List.mem_append.1 h).elim (ha s) (hb s)
theorem ztx {l:List Ent}(h:zaG l):zcV (l.map fun e=>e.1.1):=fun s hs=>by obtain⟨e,he,rfl⟩:=List.mem_map.1 hs;exact(h e he).1
theorem ztw {l:List Ent}(h:zaG l):zcV (l.map fun e=>e.1.2):=fun s hs=>by obtain⟨e,he,rfl⟩:=List.mem_map.1 hs;exact(h e he).2
theorem tN_ok {A:List Ent}(hA:A.length≤100000)(sA:zaG A)(i:Nat):zmt (tN A i):=by refine zre ?_ (zft (ze0 sA i));rw [zc3,List.length_take];omega
theorem tN_ok2 {A:List Ent}(hA:A.length≤100000)(sA:zaG A)(i:Nat):zmt (addS (tN A i) (nthE A i).1.1):=by
 rw [tN_mid];refine zre ?_ (zh8 (zft (ze0 sA i)) fun s h=>?_)
 ·rw [List.length_append,zc3,List.length_take];simp;omega
 ·rw [List.mem_singleton.1 h];exact(zgv sA i).1
theorem tE_ok {A B:List Ent}(hA:A.length≤100000)(hB:B.length≤100000)(sA:zaG A)(sB:zaG B)(i:Nat):zmt (tE A B i):=by refine zre ?_ (zh8 (zft sA) (ztx (ze0 sB i)));rw [List.length_append,zc3,List.length_map,List.length_take];omega
theorem wE_ok {B:List Ent}(hB:B.length≤100000)(sB:zaG B)(i:Nat):zmt (wE B i):=by refine zre ?_ (ztw (ze0 sB i));rw [List.length_map,List.length_take];omega
theorem tE_zero(A B:List Ent):tE A B 0=tN A A.length:=by unfold tN tE;rw [List.take_length];simp
theorem tE_all(A B:List Ent):tE A B B.length=nmS (tagL A B):=by unfold tE tagL;rw [List.take_length]
theorem wE_all(B:List Ent):wE B B.length=nmS (zaq B):=by unfold wE zaq;rw [List.take_length]
theorem zgT {l:List Str}{s:Str}(h:l≠[]∨s≠[]):addS l s≠[]:=by
 unfold addS;split
 ·rename_i hs;exact h.resolve_right (fun k=>k hs)
 ·cases l with
  |nil=>simp [insS]
  |cons x l=>rw [insS];split;·simp
             split<;>simp
theorem zoE {s:Str}(h:s=[]):addS [] s=[]:=by unfold addS;rw [if_pos h]
theorem zdO {s:Str}(h:s≠[]):addS [] s=[s]:=by unfold addS;rw [if_neg h];rfl
def rowN(A:List Ent)(T:List Str)(k:Str)(i:Nat):Int×List Str:=zeB k (T.length+1) (sumU ((T++[[]]).getD i []) A A.length) (vecU ((T++[[]]).getD i []) T A A.length)
def rowE(B:List Ent)(T W:List Str)(k:Str)(i:Nat):Int×List Str:=zeB k (W.length+1) (sumU ((T++[[]]).getD i []) B B.length) (vecU ((T++[[]]).getD i []) W B B.length)
def noM:Mdl:=⟨[],[],[],[]⟩
def okR(rN rE:Nat→Int×List Str)(i:Nat):Prop:=(∀ j,j<i→(rN j).1=0)∧∀ j,j<i→(rE j).1=0
open Classical in
noncomputable def estG(T W:List Str)(rN rE:Nat→Int×List Str):Mdl×Int:=
 if okR rN rE T.length∧(rN T.length).1=0 then(⟨T,W,(List.range (T.length+1)).map fun j=>(rN j).2,(List.range T.length).map fun j=>(rE j).2⟩,0)else(noM,2)
noncomputable def estR(A B:List Ent)(k:Str):Mdl×Int:=
 if (zct A B&&((ratP k).isSome&& !decide (k.head? =some 45)))=true then
  if 40<(nmS (tagL A B)).length∨500<(nmS (zaq B)).length then(noM,2)else estG (nmS (tagL A B)) (nmS (zaq B)) (rowN A (nmS (tagL A B)) k) (rowE B (nmS (tagL A B)) (nmS (zaq B)) k)
 else(noM,1)
noncomputable def estV(p:Mdl×Int):V:=.tup [mdlV p.1,.int .i64 p.2]
theorem zaV {T W:List Str}{rN rE:Nat→Int×List Str}(h:¬(okR rN rE T.length∧(rN T.length).1=0)):estG T W rN rE=(noM,2):=by unfold estG;rw [if_neg h]
theorem estG_ok {T W:List Str}{rN rE:Nat→Int×List Str}(h:okR rN rE T.length)(h0:(rN T.length).1=0):estG T W rN rE=(⟨T,W,(List.range (T.length+1)).map fun j=>(rN j).2,(List.range T.length).map fun j=>(rE j).2⟩,0):=by unfold estG;rw [if_pos ⟨h,h0⟩]
end Go.Proofs

namespace Go.Cnt
def tot:List Ent→Key→Int
 |[],_=>0
 |e::l,k=>(if e.1=k then e.2 else 0)+tot l k
theorem zgq:∀(l r:List Ent) (k:Key),tot (l++r) k=tot l k+tot r k
 |[],r,k=>by simp [tot]
 |e::l,r,k=>by rw [List.cons_append,tot,tot,zgq l r k];omega
theorem zqV {l:List Ent}{k:Key}(h:∀ e∈l,e.1≠k):tot l k=0:=by
 induction l with
 |nil=>rfl
 |cons e l ih=>rw [tot,if_neg (h e (List.mem_cons_self ..)),ih fun x hx=>h x (List.mem_cons_of_mem _ hx)];rfl
theorem zoN:∀ {l:List Ent},Dif l→∀ k,tot l k=val l k
 |[],_,_=>rfl
 |e::l,h,k=>by
  have h':=List.pairwise_cons.1 h;rw [tot,val];by_cases hk:e.1=k
  ·rw [if_pos hk,if_pos hk,zqV fun x hx=>by rw [←hk];exact(h'.1 x hx).symm];omega
  ·rw [if_neg hk,if_neg hk,zoN h'.2 k];omega
theorem zsG {l:List Ent}(h:∀ e∈l,0≤e.2)(k:Key):0≤tot l k:=by
 induction l with
 |nil=>exact Int.le_refl _
 |cons e l ih=>have h1:=h e (List.mem_cons_self ..);have h2:=ih fun x hx=>h x (List.mem_cons_of_mem _ hx);rw [tot];split<;>omega
theorem zsB {l:List Ent}{hi:Int}(h0:0≤hi)(h:∀ e∈l,0≤e.2∧e.2≤hi)(k:Key):0≤val l k∧val l k≤hi:=by
 induction l with
 |nil=>rw [val];omega
 |cons e l ih=>
  rw [val];split
  ·exact h e (List.mem_cons_self ..)
  ·exact ih fun x hx=>h x (List.mem_cons_of_mem _ hx)
end Go.Cnt

namespace Go.Proofs
open Go.Ab Go.Cnt Go.Pl
theorem Tryz.mapS1:mapS1 Tryz.prog 62=true:=by kernel_rfl
attribute [go_sem] Tryz.mapS1
theorem zan {π:Nat→Nat}{N:Nat→Prop}(l l':Ens)(c c':Nat)(hl:l=l')(hc:c=c'):RnB π N (.mp (mpS 0 l) c) (.mp (mpS 0 l') c'):=by
 subst hl hc;have hpu:∀(i:Nat) (l:Ens),(∀ x∈(mpS i l).map (·.2.1),Ab.Pure x)∧∀ x∈(mpS i l).map (·.2.2),Ab.Pure x:=by
  intro i l;induction l generalizing i with
  |nil=>exact⟨fun x h=>(nomatch h),fun x h=>(nomatch h)⟩
  |cons e l ih=>
   refine⟨fun x h=>?_,fun x h=>?_⟩
   ·rw [mpS,List.map_cons]at h;rcases List.mem_cons.1 h with rfl|h
    ·exact .str _
    ·exact(ih (i+1)).1 x h
   ·rw [mpS,List.map_cons]at h;rcases List.mem_cons.1 h with rfl|h
    ·exact .int _ _
    ·exact(ih (i+1)).2 x h
 exact .mp rfl (zu (hpu 0 l).1) (zu (hpu 0 l).2)
def tabN(l:List Ent)(i:Nat):List Ent:=(l.take i).foldl (fun m e=>sto m e.1 e.2) []
def tabS(l:List Ent)(i:Nat):Ens:=(l.take i).foldl (fun m e=>stoS m e.1.1 (valS m e.1.1+e.2)) []
theorem zv4(l:List Ent):tabN l 0=[]:=rfl
theorem zv3(l:List Ent):tabS l 0=[]:=rfl
theorem zmC(l:List Ent)(i:Nat)(h:i<l.length):tabN l (i+1)=sto (tabN l i) ((nthE l i).1.1,(nthE l i).1.2) (nthE l i).2:=by unfold tabN;rw [zby l i h,List.foldl_append];rfl
theorem zmB(l:List Ent)(i:Nat)(h:i<l.length):tabS l (i+1)=stoS (tabS l i) (nthE l i).1.1 (valS (tabS l i) (nthE l i).1.1+(nthE l i).2):=by unfold tabS;rw [zby l i h,List.foldl_append];rfl
theorem zkT {l:List Ent}(hs:zcD l)(a:Str):∀ i,i≤l.length→valS (tabS l i) a=(sumU a l i:Nat)
 |0,_=>rfl
 |i+1,h=>by
  have ih:=zkT hs a i (by omega);have q:=hs _ (zcq (show i<l.length by omega));rw [zmB l i (by omega),zqN,sumU];by_cases hk:(nthE l i).1.1=a
  ·rw [if_pos hk,if_pos hk,hk,ih];omega
  ·rw [if_neg hk,if_neg hk,ih]
theorem zvV:∀(l:List Ent) (k j:Key) (n:Int),val (sto l k n) j=if k=j then n else val l j
 |[],k,j,n=>by simp [sto,val]
 |e::l,k,j,n=>by
  rw [sto];by_cases hk:e.1=k
  ·rw [if_pos hk,val,val];by_cases hj:k=j
   ·rw [if_pos hj,if_pos (hk.trans hj)]
   ·rw [if_neg hj,if_neg (fun h=>hj (hk.symm.trans h)),if_neg (fun h=>hj (hk.symm.trans h))]
  ·rw [if_neg hk,val,val,zvV l k j n];by_cases hj:k=j
   ·subst hj;simp [hk]
   ·simp [hj]
theorem zv0(e:Ent)(k:Key):tot [e] k=if e.1=k then e.2 else 0:=by simp [tot]
theorem zqX {l:List Ent}(hd:Dif l)(k:Key):∀ i,i≤l.length→val (tabN l i) k=tot (l.take i) k
 |0,_=>rfl
 |i+1,h=>by
  have ih:=zqX hd k i (by omega);rw [zmC l i (by omega),zvV,zby l i (by omega),zgq,zv0];show (if (nthE l i).1=k then _ else _)=_;by_cases hk:(nthE l i).1=k
  ·rw [if_pos hk,if_pos hk,zqV (l:=l.take i) fun e he=>?_]
   ·omega
   ·obtain⟨j,hj,rfl⟩:=List.mem_iff_getElem.1 he;have hj':j<i:=by simp at hj;omega
    have hne:=List.pairwise_iff_getElem.1 hd j i (by omega) (by omega) hj';rw [List.getElem_take, ←hk];have e:nthE l i=l[i]:=by unfold nthE;rw [List.getD_eq_getElem?_getD,List.getElem?_eq_getElem (by omega)];rfl
    rw [e];exact hne
  ·rw [if_neg hk,if_neg hk,ih];omega
theorem zqY {l:List Ent}(hd:Dif l)(k:Key):val (tabN l l.length) k=val l k:=by rw [zqX hd k l.length (Nat.le_refl _),List.take_length,zoN hd]
set_option maxHeartbeats 4000000 in
set_option maxRecDepth 100000 in
theorem zv2(l:List Ent)(hl:l.length≤100000)(hs:zcD l):NCall Tryz.prog 35 [.fs (cnts l) l.length] [] [] (.agg [.map 0,.map 1]) ⟨[(1,.mp (mpS 0 (tabS l l.length)) (tabS l l.length).length),(0,.mp (mpF 0 (tabN l l.length)) (tabN l l.length).length),(2,.cells [.map 0,.map 1])],3⟩:=by
 refine NCall.walk (rs:=[.cell 2 64]) [0,2,3,5,9,10,11,12] [] 0 mixed (zh) (zg) call35 Tryz.func35 rfl Tryz.ntmps35 rfl (by kernel_rfl) (by simp) (by simp) (by simp) ?_;simp (disch:=first|assumption|(push_cast<;>omega)|omega) only [go_sem];refine AXs.loop mixed (zh) (zg) (fun i:Nat=>[(2,.ptr 0 0),(3,.ptr 3 0),(9,.fs (cnts l) l.length),(10,.int .i64 l.length),(11,.int .i64 i)])
  (fun i=>⟨[(3,.cells [.map 1,.map 2]),(2,.mp (mpS 0 (tabS l i)) (tabS l i).length),(1,.mp (mpF 0 (tabN l i)) (tabN l i).length),(0,.cells [.nilM,.nilM])],4⟩) (fun i=>i≤l.length) (fun i=>l.length - i) 0 (by kernel_rfl) (Nat.zero_le _) (Sub.of [] rfl ?_ ?_ (by decide) (fun b hb hw=>absurd hb (Nat.not_lt_zero b))) ?_
 ·simp only [go_sem]
 ·simp only [go_sem,zv4,zv3];exact⟨zan [] [] 0 0 rfl rfl,zaR [] [] 0 0 rfl rfl⟩
 intro i h1;simp (disch:=first|assumption|(push_cast<;>omega)|omega) only [go_sem];refine AXc.introP (fun h3=>?_) (fun h3=>?_)
 ·have hi:i<l.length:=by omega
  have at1:=zci l i hi;have hv:=zkT hs (nthE l i).1.1 i h1;have hle:=zoO (a:=(nthE l i).1.1) hs i;have q:=hs _ (zcq hi);have t1:=zmC l i hi;have t2:=zmB l i hi;simp (disch:=first|assumption|(push_cast<;>omega)|omega) only [go_sem,at1]
  (repeat refine sdC ?_);refine zi (i+1) (by omega) (by omega) (Sub.of [] rfl ?_ ?_ (by decide) (fun b hb hw=>absurd hb (Nat.not_lt_zero b)))
  ·simp only [go_sem];simp
  ·rw [t1,t2];simp only [go_sem];exact⟨zan _ _ _ _ rfl rfl,zaR _ _ _ _ rfl rfl⟩
 ·obtain rfl:i=l.length:=by omega
  simp only [go_sem];refine AXa.go mixed (zh) (zg) (by kernel_rfl) ?_;simp (disch:=first|assumption|(push_cast<;>omega)|omega) only [go_sem];refine⟨[(2,.ptr 2 0)],Sub.of [(2,0),(0,1),(1,2)] rfl ?_ ?_ (by decide) (fun b hb hw=>absurd hb (Nat.not_lt_zero b)),?_⟩
  ·simp only [go_sem]
  ·simp only [go_sem];exact⟨zan _ _ _ _ rfl rfl,zaR _ _ _ _ rfl rfl⟩
  ·simp only [go_sem]
def TabR(args:List V)(H:Hp)(r:AR):Prop:=
 ∃ l:List Ent,args=[.fs (cnts l) l.length]∧l.length≤100000∧zcD l∧(∀ b x,H.get b=some x→b<H.next)∧
  r=⟨True,.agg [.map H.next,.map (H.next+1)],⟨(H.next+1,.mp (mpS 0 (tabS l l.length)) (tabS l l.length).length)::(H.next,.mp (mpF 0 (tabN l l.length)) (tabN l l.length).length)::H.bs,H.next+3⟩,[],[]⟩
theorem tabR_ok:∀ args H r,TabR args H r→HCall Tryz.prog 35 args H r:=by
 rintro args H r ⟨l,rfl,hl,hs,hk,rfl⟩;have t0:zaa [] H.next H.next=0:=by unfold zaa;rw [if_neg (by omega)];simp
 have t1:zaa [] H.next (H.next+1)=1:=by unfold zaa;rw [if_neg (by omega)];simp
 refine HCall.of (zv2 l hl hs) [] _ (.agg [.map H.next,.map (H.next+1)]) H _ rfl .nil (zu fun x hx=>?_) (fun i x hx=>by simp at hx) ?_ (by show H.next+3+0=H.next+3;rfl) (fun b x' hx'=>?_) (fun b hb _=>?_)
 ·obtain rfl:=List.mem_singleton.1 hx;exact .fs (zcv l)
 ·refine .agg rfl fun i x y hx hy=>?_;match i with
  |0=>cases hx;cases hy;have:=Rn.map (π:=zaa [] H.next) (N:=fun b=>b∈[]∨(H.next≤b∧b<H.next+3)) (b:=H.next) (.inr ⟨Nat.le_refl _,by omega⟩);rwa [t0]at this
  |1=>cases hx;cases hy;have:=Rn.map (π:=zaa [] H.next) (N:=fun b=>b∈[]∨(H.next≤b∧b<H.next+3)) (b:=H.next+1) (.inr ⟨by omega,by omega⟩);rwa [t1]at this
  |i+2=>simp at hx
 ·have hx'':(((H.next+1,Blk.mp (mpS 0 (tabS l l.length)) (tabS l l.length).length)::(H.next,.mp (mpF 0 (tabN l l.length)) (tabN l l.length).length)::H.bs:List (Nat×Blk)).lookup b)=some x':=hx';rw [List.lookup_cons]at hx'';by_cases hb1:b=H.next+1
  ·subst hb1;simp only [beq_self_eq_true,Option.some.injEq]at hx'';subst hx'';refine .inr ⟨.inr ⟨by omega,by show H.next+1<H.next+3;omega⟩,_,by rw [t1];rfl,zan _ _ _ _ rfl rfl⟩
  ·have hq:(b==H.next+1)=false:=by simp [hb1]
   simp only [hq,List.lookup_cons]at hx'';by_cases hb0:b=H.next
   ·subst hb0;simp only [beq_self_eq_true,Option.some.injEq]at hx'';subst hx'';refine .inr ⟨.inr ⟨Nat.le_refl _,by show H.next<H.next+3;omega⟩,_,by rw [t0];rfl,zaR _ _ _ _ rfl rfl⟩
   ·have hq0:(b==H.next)=false:=by simp [hb0]
    simp only [hq0]at hx'';exact .inl ⟨hk b x' hx'',by simp,hx''⟩
 ·show (((H.next+1,Blk.mp (mpS 0 (tabS l l.length)) (tabS l l.length).length)::(H.next,.mp (mpF 0 (tabN l l.length)) (tabN l l.length).length)::H.bs:List (Nat×Blk)).lookup b)=H.bs.lookup b;have hq:(b==H.next+1)=false:=by simp;omega
  have hq0:(b==H.next)=false:=by simp;omega
  simp only [List.lookup_cons,hq,hq0]
theorem zgr(l:List Ent)(n:Nat)(bs:List (Nat×Blk))(nx:Nat)(hn:n=l.length)(hl:l.length≤100000)(hs:zcD l)(hk:((keysB bs).all fun b=>decide (b<nx))=true):
 conD TabR [.fs (cnts l) n] ⟨bs,nx⟩=some ⟨True,.agg [.map nx,.map (nx+1)],⟨(nx+1,.mp (mpS 0 (tabS l l.length)) (tabS l l.length).length)::(nx,.mp (mpF 0 (tabN l l.length)) (tabN l l.length).length)::bs,nx+3⟩,[],[]⟩:=by
 subst hn
 refine zaW ⟨l,rfl,hl,hs,zbA hk,rfl⟩ ?_
 rintro r' ⟨l',e,_,_,_,rfl⟩
 simp only [List.cons.injEq,V.fs.injEq,and_true]at e
 rw [zbp e.1]
end Go.Proofs

namespace Go.Ab
def zgR(f:V→V→Bool):List V→List V→Bool
 |[],[]=>true
 |a::r,b::s=>f a b&&zgR f r s
 |_,_=>false
def beqN:Nat→V→V→Bool
 |0,_,_=>false
 |n+1,x,y=>
  match x,y with
  | .bool a,.bool b=>a==b
  | .int k a,.int k' b=>decide (k=k')&&decide (a=b)
  | .str a,.str b=>decide (a=b)
  | .nilS,.nilS=>true
  | .sl b o l s c,.sl b' o' l' s' c'=>Nat.beq b b'&&Nat.beq o o'&&Nat.beq l l'&&Nat.beq s s'&&decide (c=c')
  | .fs cs n1,.fs cs' n2=>Nat.beq n1 n2&&zgR (beqN n) cs cs'
  | .nilP,.nilP=>true
  | .ptr b o,.ptr b' o'=>Nat.beq b b'&&Nat.beq o o'
  | .fp cs,.fp cs'=>zgR (beqN n) cs cs'
  | .nilM,.nilM=>true
  | .map b,.map b'=>Nat.beq b b'
  | .fn f cs,.fn f' cs'=>Nat.beq f f'&&zgR (beqN n) cs cs'
  | .bnd f cs,.bnd f' cs'=>Nat.beq f f'&&zgR (beqN n) cs cs'
  | .nilF,.nilF=>true
  | .ifc t v,.ifc t' v'=>Nat.beq t t'&&beqN n v v'
  | .nilI,.nilI=>true
  | .agg cs,.agg cs'=>zgR (beqN n) cs cs'
  | .tup cs,.tup cs'=>zgR (beqN n) cs cs'
  | .any,.any=>true
  | .opt b v,.opt b' v'=>(b==b')&&beqN n v v'
  |_,_=>false
def beqV(x y:V):Bool:=beqN 12 x y
def beqVs(l r:List V):Bool:=zgR (beqN 12) l r
theorem zqv {f:V→V→Bool}(hf:∀ a b,f a b=true→a=b):∀ {l r:List V},zgR f l r=true→l=r
 |[],r,h=>by cases r<;>simp [zgR]at h;rfl
 |a::l,r,h=>by
  cases r with
  |nil=>simp [zgR]at h
  |cons b s=>simp [zgR]at h;rw [hf a b h.1,zqv hf h.2]
theorem zqu:∀(n:Nat) (a b:V),beqN n a b=true→a=b
 |0,a,b,h=>by simp [beqN]at h
 |n+1,a,b,h=>by
  have ih:=zqu n;have il:∀ {l r:List V},zgR (beqN n) l r=true→l=r:=zqv ih;unfold beqN at h;split at h<;>(try simp only [Bool.and_eq_true,Nat.beq_eq,decide_eq_true_eq,beq_iff_eq]at h)<;>first
   |rfl
   |(rw [h];done)
   |(rw [h.1,h.2];done)
   |(rw [h.1,il h.2];done)
   |(rw [il h];done)
   |(rw [h.1,ih _ _ h.2];done)
   |(simp [h];done)
   |(cases h;done)
theorem zi9 {a b:V}(h:beqV a b=true):a=b:=zqu _ _ _ h
theorem zsf {l r:List V}(h:beqVs l r=true):l=r:=zqv (zqu _) h
def zvt:List (Nat×V×V)→List (Nat×V×V)→Bool
 |[],[]=>true
 |a::r,b::s=>Nat.beq a.1 b.1&&beqV a.2.1 b.2.1&&beqV a.2.2 b.2.2&&zvt r s
 |_,_=>false
theorem zsg:∀ {a b:List (Nat×V×V)},zvt a b=true→a=b
 |[],b,h=>by cases b<;>simp [zvt]at h;rfl
 |(n,x,y)::r,b,h=>by
  cases b with
  |nil=>simp [zvt]at h
  |cons q s=>obtain⟨m,x',y'⟩:=q;simp [zvt]at h;rw [h.1.1.1,zi9 h.1.1.2,zi9 h.1.2,zsg h.2]
def beqB:Blk→Blk→Bool
 | .cells cs,.cells cs'=>beqVs cs cs'
 | .mp es c,.mp es' c'=>Nat.beq c c'&&zvt es es'
 | .it m bs l s t c,.it m' bs' l' s' t' c'=>decide (m=m'∧bs=bs'∧l=l'∧s=s'∧t=t'∧c=c')
 | .ty t cs,.ty t' cs'=>Nat.beq t t'&&beqVs cs cs'
 |_,_=>false
theorem beqB_eq {a b:Blk}(h:beqB a b=true):a=b:=by
 cases a<;>cases b<;>simp [beqB]at h
 ·rw [zsf h]
 ·rw [h.1,zsg h.2]
 ·obtain⟨h1,h2,h3,h4,h5,h6⟩:=h;rw [h1,h2,h3,h4,h5,h6]
 ·rw [h.1,zsf h.2]
def zqw:List (Nat×Blk)→List (Nat×Blk)→Bool
 |[],[]=>true
 |a::r,b::s=>Nat.beq a.1 b.1&&beqB a.2 b.2&&zqw r s
 |_,_=>false
theorem zsh:∀ {a b:List (Nat×Blk)},zqw a b=true→a=b
 |[],b,h=>by cases b<;>simp [zqw]at h;rfl
 |(n,x)::r,b,h=>by
  cases b with
  |nil=>simp [zqw]at h
  |cons q s=>obtain⟨m,x'⟩:=q;simp [zqw]at h;rw [h.1.1,beqB_eq h.1.2,zsh h.2]
end Go.Ab
