/- Words, their places in a list: the program and the reference. -/
import Derived.Test.YthbimeikbkjnkaaGreatDoorAbWalk
import Derived.Test.YthbimeikbkjnkaaGreatDoorAbWalk2
set_option linter.all false
namespace Go.Proofs
open Go.Ab Go.Cnt
def idxS:List Str→Str→Nat
 |[],_=>0
 |a::l,s=>if a=s then 0 else idxS l s+1
theorem zgu:∀(l:List Str) (s:Str),idxS l s≤l.length
 |[],_=>Nat.le_refl _
 |a::l,s=>by
  have:=zgu l s;unfold idxS;split
  ·omega
  ·simp only [List.length_cons];omega
theorem zjv:∀ {l:List Str} {s:Str},idxS l s<l.length→l.getD (idxS l s) []=s
 |[],_,h=>by simp at h
 |a::l,s,h=>by
  unfold idxS at h ⊢;split
  ·rename_i e;simpa using e
  ·rename_i e;rw [if_neg e]at h;have:=zjv (l:=l) (s:=s) (by simpa using h);simpa using this
theorem zm1:∀ {l:List Str} {s:Str} {i:Nat},i<l.length→l.getD i []=s→(∀ j,j<i→l.getD j []≠s)→idxS l s=i
 |[],_,_,h,_,_=>by simp at h
 |a::l,s,0,_,h,_=>by
  have:a=s:=by simpa using h
  unfold idxS;rw [if_pos this]
 |a::l,s,i+1,h,h1,h2=>by
  have h3:a≠s:=by simpa using h2 0 (by omega)
  unfold idxS;rw [if_neg h3,zm1 (l:=l) (s:=s) (i:=i) (by simpa using h) (by simpa using h1) (fun j hj=>by simpa using h2 (j+1) (by omega))]
theorem zk3:∀ {l:List Str} {s:Str},(∀ j,j<l.length→l.getD j []≠s)→idxS l s=l.length
 |[],_,_=>rfl
 |a::l,s,h=>by
  have h3:a≠s:=by simpa using h 0 (by simp)
  unfold idxS;rw [if_neg h3,zk3 (l:=l) (s:=s) (fun j hj=>by simpa using h (j+1) (by simpa using hj))];rfl
def ixI(l:List Str)(s:Str):Int:=if idxS l s<l.length then idxS l s else -1
set_option maxHeartbeats 4000000 in
theorem zpO(l:List Str)(s:Str)(hl:l.length≤1000000000000000):PCall Tryz.prog 31 [.fs (strs l) l.length,.str s] (.ret (.int .i64 (ixI l s))):=by
 refine PCall.walk (rs:=[.tmp 4]) [0,1,4,5,9,17] [] mixed (zh) (zf) call31 Tryz.func31 rfl Tryz.ntmps31 rfl (by kernel_rfl) (by simp) (by simp [push_cast]) ?_;simp only [go_sem];refine AXs.loop mixed (zh) (zf) (fun i:Nat=>[(0,.fs (strs l) l.length),(1,.str s),(5,.int .i64 i)]) (fun _=>⟨[],0⟩) (fun i=>i≤l.length∧∀ j,j<i→l.getD j []≠s) (fun i=>l.length - i) 0 (by kernel_rfl) ⟨Nat.zero_le _,fun j hj=>by omega⟩ (Sub.of0 [] rfl rfl ?_ ?_) ?_
 ·simp only [go_sem]
 ·simp only [go_sem]
 rintro i ⟨h1,h2⟩;simp only [go_sem];refine AXc.introP (fun h3=>?_) (fun h3=>?_)
 ·have hi:i<l.length:=by omega
  simp (disch:=first|assumption|(push_cast<;>omega)|omega) only [go_sem]
  (repeat refine sdC ?_);refine AXc.introP (fun h4=>?_) (fun h4=>?_)
  ·have:=zm1 hi h4 h2;have e:ixI l s=i:=by unfold ixI;rw [this,if_pos hi]
   rw [e];simp only [go_sem]
  ·simp (disch:=first|assumption|(push_cast<;>omega)|omega) only [go_sem];refine zo (i+1) ⟨by omega,fun j hj=>?_⟩ (by omega) (Sub.of0 [] rfl rfl ?_ ?_)
   ·by_cases hji:j<i
    ·exact h2 j hji
    ·obtain rfl:j=i:=by omega
     exact h4
   ·simp only [go_sem];simp
   ·simp only [go_sem]
 ·obtain rfl:i=l.length:=by omega
  have e:ixI l s= -1:=by unfold ixI;rw [zk3 h2,if_neg (by omega)]
  rw [e];simp only [go_sem];refine AXa.go mixed (zh) (zf) (by kernel_rfl) ?_;simp only [go_sem]
noncomputable def cRIx:List V→Option PR:=zG (fun p:List Str×Str=>[.fs (strs p.1) p.1.length,.str p.2]) (fun p=>p.1.length≤1000000000000000) fun p=>.ret (.int .i64 (ixI p.1 p.2))
@[go_sem] theorem cRIx_eq(l:List Str)(s:Str)(hl:l.length≤1000000000000000):cRIx [.fs (strs l) l.length,.str s]=some (.ret (.int .i64 (ixI l s))):=
 zn (pat:=fun p:List Str×Str=>[.fs (strs p.1) p.1.length,.str p.2]) (fun x y h=>by simp at h;exact Prod.ext (zaB h.1.1) h.2) (l,s) hl
theorem cRIx_ok:∀ args r,cRIx args=some r→PCall Tryz.prog 31 args r:=zk fun p h=>zpO p.1 p.2 h
theorem inc_lt {l:List Str}(h:incS l=true):∀ i j,i<j→j<l.length→ltS (l.getD i []) (l.getD j [])=true:=by
 have h0:∀ i,i+1<l.length→cmpS (l.getD i []) (l.getD (i+1) [])<0:=by unfold incS at h;exact @of_decide_eq_true _ (Classical.propDecidable _) h
 have h1:∀ i,i+1<l.length→ltS (l.getD i []) (l.getD (i+1) [])=true:=fun i hi=>by
  have:=h0 i hi;rcases zhU (l.getD i []) (l.getD (i+1) [])with⟨k,e⟩|⟨k,e⟩|⟨k,k',e⟩
  ·exact k
  ·omega
  ·omega
 intro i j;induction j with
 |zero=>intro h _;omega
 |succ j ih=>
  intro hij hj;by_cases e:i=j
  ·subst e;exact h1 i hj
  ·exact zez (ih (by omega) (by omega)) (h1 j hj)
def lbS(l:List Str)(s:Str):Nat:=(l.takeWhile fun a=>ltS a s).length
theorem lbS_eq {l:List Str}{s:Str}{i:Nat}(hi:i≤l.length)(h1:∀ j,j<i→ltS (l.getD j []) s=true)(h2:i<l.length→ltS (l.getD i []) s=false):lbS l s=i:=by
 unfold lbS;induction l generalizing i with
 |nil=>simp at hi;simp [hi]
 |cons a l ih=>
  cases i with
  |zero=>have:=h2 (by simp);rw [List.takeWhile_cons,if_neg (by simpa using this)];rfl
  |succ i=>have h0:=h1 0 (by omega);rw [List.takeWhile_cons,if_pos (by simpa using h0),List.length_cons,ih (i:=i) (by simpa using hi) (fun j hj=>by simpa using h1 (j+1) (by omega)) (fun hj=>by simpa using h2 (by simpa using hj))]
theorem less_ok(a b:Str):PCall Tryz.prog 109 [.str a,.str b] (.ret (.bool (ltS a b))):=by refine PCall.walk (rs:=[.tmp 4]) [0,1,4] [] mixed (zg zlx zh) (zf) call109 Tryz.func109 rfl Tryz.ntmps109 rfl (by kernel_rfl) (by simp) (by simp [push_cast]) ?_;simp only [go_sem]
noncomputable def cLess:List V→Option PR:=zG (fun p:Str×Str=>[.str p.1,.str p.2]) (fun _=>True) fun p=>.ret (.bool (ltS p.1 p.2))
@[go_sem] theorem cLess_eq(a b:Str):cLess [.str a,.str b]=some (.ret (.bool (ltS a b))):=zn (pat:=fun p:Str×Str=>[.str p.1,.str p.2]) (fun x y h=>by simp at h;exact Prod.ext h.1 h.2) (a,b) trivial
theorem cLess_ok:∀ args r,cLess args=some r→PCall Tryz.prog 109 args r:=zk fun p _=>less_ok p.1 p.2
theorem sNaN_ok(s:Str):PCall Tryz.prog 110 [.str s] (.ret (.bool false)):=by refine PCall.walk (rs:=[.tmp 2]) [0,2] [] mixed (zh) (zf) call110 Tryz.func110 rfl Tryz.ntmps110 rfl (by kernel_rfl) (by simp) (by simp [push_cast]) ?_;simp only [go_sem]
noncomputable def cSNaN:List V→Option PR:=zG (fun a:Str=>[.str a]) (fun _=>True) fun _=>.ret (.bool false)
@[go_sem] theorem cSNaN_eq(a:Str):cSNaN [.str a]=some (.ret (.bool false)):=zn (pat:=fun a:Str=>[.str a]) (fun x y h=>by simpa using h) a trivial
theorem cSNaN_ok:∀ args r,cSNaN args=some r→PCall Tryz.prog 110 args r:=zk fun a _=>sNaN_ok a
section
variable {C:Cfg}{P:Program}{K:Out→St→Prop}{st:List Fr}{ops:Array Oper}{os:List Oper}{env:Env}{h:Hp}
theorem zwS(d:Tmp):AXg1 C P K st ops os (some d) (some false) .bad env h=AXr C P K st ops os ((d,undefV)::env) h:=zjQ d .bad
theorem znl(nd:Prop):callM none nd h=.bad:=rfl
theorem zpZ:zdc .any=[]:=rfl
theorem nan_any:cSNaN [.any]=none:=by unfold cSNaN zG;rw [dif_neg];rintro⟨p,hp⟩;simp at hp
theorem zrY(d:Tmp)(a b c:V):AXg1 C P K st ops os (some d) (some false) (zb7 a b c h) env h=AXr C P K st ops os ((d,skV (zb7 a b c h))::env) h:=zjQ d _
theorem zsn:undefV.val=.tup []:=rfl
theorem zps:undefV.cond=True:=rfl
theorem guard_ou(w:Bool):ze7 (.opt false (.tup [])) w=some false:=rfl
theorem guard_oa(w:Bool):ze7 (.opt false .any) w=some false:=rfl
theorem eq_badT(s:Str)(H:Hp):aBin Tryz.prog .eql 9 .any (.str s) H=⟨False,.any,H,[],[]⟩:=by kernel_rfl
end
set_option maxHeartbeats 4000000 in
theorem bs_ok(l:List Str)(s:Str)(hl:l.length≤1000000)(hi:incS l=true):PCall Tryz.prog 67 [.fs (strs l) l.length,.str s] (.ret (.tup [.int .i64 (lbS l s),.bool (decide (idxS l s<l.length))])):=by
 have hΓ:=zg cLess_ok (zg cSNaN_ok zh);have hlt:=inc_lt hi;refine PCall.walk (rs:=[.tmp 4,.tmp 5]) [0,1,4,5,6,7,8,9,15,27] [] mixed (hΓ) (zf) call67 Tryz.func67 rfl Tryz.ntmps67 rfl (by kernel_rfl) (by simp) (by simp [push_cast]) ?_;simp only [go_sem];refine AXs.loop mixed (hΓ) (zf) (fun p:Nat×Nat=>[(0,.fs (strs l) l.length),(1,.str s),(6,.int .i64 l.length),(7,.int .i64 p.1),(8,.int .i64 p.2)]) (fun _=>⟨[],0⟩) (fun p=>p.1≤p.2∧p.2≤l.length∧(∀ j,j<p.1→ltS (l.getD j []) s=true)∧∀ j,p.2≤j→j<l.length→ltS (l.getD j []) s=false) (fun p=>p.2 - p.1) (0,l.length) (by kernel_rfl) ⟨Nat.zero_le _,Nat.le_refl _,fun j hj=>by omega,fun j hj=>by omega⟩ (Sub.of0 [] rfl rfl ?_ ?_) ?_
 ·simp only [go_sem]
 ·simp only [go_sem]
 rintro⟨i,j⟩ ⟨h1,h2,h3,h4⟩;dsimp only at h1 h2 h3 h4 ⊢;simp only [go_sem];refine AXc.introP (fun h5=>?_) (fun h5=>?_)
 ·have hij:i<j:=by omega
  have e2:((i:Int)+(j:Int)) / 2 ^ 1=(((i+j) / 2:Nat):Int):=by omega
  have e3:i≤(i+j) / 2∧(i+j) / 2<j:=by omega
  simp (disch:=first|assumption|(push_cast<;>omega)|omega) only [go_sem];rw [e2];generalize (i+j) / 2=h at e3 ⊢;rw [Int.toNat_natCast]
  (repeat refine sdC ?_);cases hx:ltS (l.getD h []) s with
  |true=>
   simp (disch:=first|assumption|(push_cast<;>omega)|omega) only [go_sem];refine zo (h+1,j) ⟨by dsimp only;omega,h2,fun k hk=>?_,h4⟩ (by dsimp only;omega) (Sub.of0 [] rfl rfl ?_ ?_)
   ·rcases Nat.lt_or_ge k h with hkh|hkh
    ·have:=hlt k h hkh (by omega);exact zez this hx
    ·obtain rfl:k=h:=by dsimp only at hk;omega
     exact hx
   ·simp only [go_sem];simp
   ·simp only [go_sem]
  |false=>
   simp (disch:=first|assumption|(push_cast<;>omega)|omega) only [go_sem];refine zo (i,h) ⟨by dsimp only;omega,by dsimp only;omega,h3,fun k hk hk2=>?_⟩ (by dsimp only;omega) (Sub.of0 [] rfl rfl ?_ ?_)
   ·rcases Nat.lt_or_ge h k with hkh|hkh
    ·have h6:=hlt h k hkh hk2;cases h7:ltS (l.getD k []) s with
     |false=>rfl
     |true=>rw [show ltS (l.getD h []) s=true from zez h6 h7]at hx;cases hx
    ·obtain rfl:k=h:=by dsimp only at hk;omega
     exact hx
   ·simp only [go_sem]
   ·simp only [go_sem]
 ·obtain rfl:i=j:=by omega
  have hlb:lbS l s=i:=lbS_eq h2 h3 fun h=>h4 i (Nat.le_refl _) h;simp only [go_sem];refine AXa.go mixed (hΓ) (zf) (by kernel_rfl) ?_;by_cases hil:i<l.length
  ·have e1:decide ((i:Int)<(l.length:Int))=true:=decide_eq_true (by omega);have e4:decide (idxS l s<l.length)=decide (l.getD i []=s):=by
    by_cases hq:l.getD i []=s
    ·rw [decide_eq_true hq];refine decide_eq_true ?_;rw [zm1 hil hq fun j hj he=>?_]
     ·exact hil
     ·have:=h3 j hj;rw [he,show ltS s s=false from zbi s]at this;cases this
    ·rw [decide_eq_false hq];refine decide_eq_false fun hk=>hq ?_;have hat:=zjv hk;generalize idxS l s=k at hk hat;rcases Nat.lt_trichotomy k i with h|h|h
     ·have:=h3 k h;rw [hat,show ltS s s=false from zbi s]at this;cases this
     ·rw [←h];exact hat
     ·have h8:=hlt i k h hk;rw [hat]at h8;rw [h4 i (Nat.le_refl _) hil]at h8;cases h8
   rw [hlb,e4];simp (disch:=first|assumption|(push_cast<;>omega)|omega) only [go_sem,e1];exact⟨⟨by omega,by omega⟩,by omega,fun h=>⟨h,by omega,by omega⟩,fun h=>⟨h,by omega⟩⟩
  ·have e1:decide ((i:Int)<(l.length:Int))=false:=decide_eq_false (by omega);have e4:decide (idxS l s<l.length)=false:=by refine decide_eq_false fun hk=>?_;have hat:=zjv hk;have:=h3 (idxS l s) (by omega);rw [hat,show ltS s s=false from zbi s]at this;cases this
   rw [hlb,e4];have e9:nthV (strs (l.drop i)) 0=.any:=by rw [List.drop_eq_nil_of_le (by omega)];rfl
   simp (disch:=first|assumption|(push_cast<;>omega)|omega) only [go_sem,e1,e9,eq_badT,zwS,guard_oa,znl,zpZ,nan_any,zsn,zps,guard_ou,zrY]
noncomputable def cBs:List V→Option PR:=zG (fun p:List Str×Str=>[.fs (strs p.1) p.1.length,.str p.2]) (fun p=>p.1.length≤1000000∧incS p.1=true) fun p=>.ret (.tup [.int .i64 (lbS p.1 p.2),.bool (decide (idxS p.1 p.2<p.1.length))])
@[go_sem] theorem cBs_eq(l:List Str)(s:Str)(hl:l.length≤1000000)(hi:incS l=true):cBs [.fs (strs l) l.length,.str s]=some (.ret (.tup [.int .i64 (lbS l s),.bool (decide (idxS l s<l.length))])):=
 zn (pat:=fun p:List Str×Str=>[.fs (strs p.1) p.1.length,.str p.2]) (fun x y h=>by simp at h;exact Prod.ext (zaB h.1.1) h.2) (l,s) ⟨hl,hi⟩
theorem cBs_ok:∀ args r,cBs args=some r→PCall Tryz.prog 67 args r:=zk fun p h=>bs_ok p.1 p.2 h.1 h.2
theorem lb_idx {l:List Str}{s:Str}(hi:incS l=true)(h:idxS l s<l.length):lbS l s=idxS l s:=by
 have hat:=zjv h;refine lbS_eq (Nat.le_of_lt h) (fun j hj=>?_) fun _=>?_
 ·have:=inc_lt hi j _ hj h;rwa [hat]at this
 ·rw [hat];exact zbi s
theorem zst(l:List Str)(s:Str)(hl:l.length≤1000000)(hi:incS l=true):PCall Tryz.prog 35 [.fs (strs l) l.length,.str s] (.ret (.int .i64 (idxS l s))):=by
 refine PCall.walk (rs:=[.tmp 4]) [0,1,4,5,6,14] [] mixed (zg cBs_ok zh) (zf) call35 Tryz.func35 rfl Tryz.ntmps35 rfl (by kernel_rfl) (by simp) (by simp [push_cast]) ?_;have hle:=zgu l s;by_cases h:idxS l s<l.length
 ·rw [←lb_idx hi h];have e1:decide (idxS l s<l.length)=true:=decide_eq_true h;simp (disch:=first|assumption|(push_cast<;>omega)|omega) only [go_sem,e1]
 ·have e1:decide (idxS l s<l.length)=false:=decide_eq_false h;have e2:idxS l s=l.length:=by omega
  rw [e2];rw [e2]at e1;have e3:=cBs_eq l s hl hi;rw [e2,e1]at e3;simp (disch:=first|assumption|(push_cast<;>omega)|omega) only [go_sem,e3]
noncomputable def cIndex:List V→Option PR:=zG (fun p:List Str×Str=>[.fs (strs p.1) p.1.length,.str p.2]) (fun p=>p.1.length≤1000000∧incS p.1=true) fun p=>.ret (.int .i64 (idxS p.1 p.2))
@[go_sem] theorem cIndex_eq(l:List Str)(s:Str)(hl:l.length≤1000000)(hi:incS l=true):cIndex [.fs (strs l) l.length,.str s]=some (.ret (.int .i64 (idxS l s))):=
 zn (pat:=fun p:List Str×Str=>[.fs (strs p.1) p.1.length,.str p.2]) (fun x y h=>by simp at h;exact Prod.ext (zaB h.1.1) h.2) (l,s) ⟨hl,hi⟩
theorem zly:∀ args r,cIndex args=some r→PCall Tryz.prog 35 args r:=zk fun p h=>zst p.1 p.2 h.1 h.2
end Go.Proofs

namespace Go.Pl
def zci(c:UInt8):Bool:=decide (48≤c.toNat)&&decide (c.toNat≤57)
def valD(a:List UInt8):Nat:=a.foldl (fun n c=>10*n+(c.toNat - 48)) 0
def zN(a:List UInt8):Bool:= !decide (a=[])&&decide (a.length≤1000)&&(decide (a.length≤1)|| !decide ((a.getD 0 0).toNat=48))&&a.all zci
theorem all_getD {p:UInt8→Bool}{a:List UInt8}:a.all p=true↔∀ i,i<a.length→p (a.getD i 0)=true:=by
 simp only [List.all_eq_true];constructor
 ·intro h i hi;rw [List.getD_eq_getElem?_getD,List.getElem?_eq_getElem hi];exact h _ (List.getElem_mem _)
 ·intro h x hx;obtain⟨i,hi,rfl⟩:=List.mem_iff_getElem.1 hx;have:=h i hi;rwa [List.getD_eq_getElem?_getD,List.getElem?_eq_getElem hi]at this
def valL:List Nat→Nat
 |[]=>0
 |d::l=>d+1000000000*valL l
def okL(l:List Nat):Prop:=∀ d∈l,d<1000000000
def zaf:List Nat→List Nat
 |[]=>[]
 |d::l=>if d=0∧zaf l=[]then []else d::zaf l
def zbN:Nat→Nat→List Nat
 |0,_=>[]
 |f+1,n=>if n=0 then []else n % 1000000000::zbN f (n / 1000000000)
def limbs(n:Nat):List Nat:=zbN n n
theorem zdo:∀(f g n:Nat),n≤f→n≤g→zbN f n=zbN g n
 |0,g,n,h,_=>by
  have:n=0:=by omega
  subst this;cases g<;>simp [zbN]
 |f+1,0,n,_,h=>by
  have:n=0:=by omega
  subst this;simp [zbN]
 |f+1,g+1,n,h,h'=>by
  simp only [zbN];split
  ·rfl
  ·rw [zdo f g (n / 1000000000) (by omega) (by omega)]
theorem zaA:limbs 0=[]:=rfl
theorem zaH {n:Nat}(h:n≠0):limbs n=n % 1000000000::limbs (n / 1000000000):=by unfold limbs;obtain⟨m,rfl⟩:∃ m,n=m+1:=⟨n - 1,by omega⟩;rw [zbN,if_neg h,zdo m ((m+1) / 1000000000) ((m+1) / 1000000000) (by omega) (Nat.le_refl _)]
theorem limbs_nil {n:Nat}:limbs n=[]↔n=0:=by
 constructor
 ·intro h;by_cases h0:n=0
  ·exact h0
  ·rw [zaH h0]at h;cases h
 ·rintro rfl;rfl
theorem zB(n:Nat):valL (limbs n)=n:=by
 induction n using Nat.strongRecOn with
 |_ n ih=>
  by_cases h:n=0
  ·subst h;rfl
  ·rw [zaH h,valL,ih (n / 1000000000) (by omega)];omega
theorem zC(n:Nat):okL (limbs n):=by
 induction n using Nat.strongRecOn with
 |_ n ih=>
  by_cases h:n=0
  ·subst h;intro d hd;cases hd
  ·rw [zaH h];intro d hd;rcases List.mem_cons.1 hd with rfl|hd
   ·omega
   ·exact ih (n / 1000000000) (by omega) d hd
theorem okL_cons {d:Nat}{l:List Nat}:okL (d::l)↔d<1000000000∧okL l:=by simp [okL]
theorem okL_append {l r:List Nat}:okL (l++r)↔okL l∧okL r:=by simp only [okL,List.mem_append];exact⟨fun h=>⟨fun d hd=>h d (.inl hd),fun d hd=>h d (.inr hd)⟩,fun h d hd=>hd.elim (h.1 d) (h.2 d)⟩
theorem zaN {l:List Nat}(h:okL l):zaf l=limbs (valL l):=by
 induction l with
 |nil=>rfl
 |cons d l ih=>
  rw [okL_cons]at h;rw [zaf,ih h.2,valL];have hd:=h.1;by_cases h0:d+1000000000*valL l=0
  ·rw [h0,zaA,if_pos ⟨by omega,limbs_nil.2 (by omega)⟩]
  ·rw [zaH h0,if_neg (by rw [limbs_nil];omega)];congr 1
   ·omega
   ·congr 1;omega
theorem zav(l r:List Nat):valL (l++r)=valL l+1000000000 ^ l.length*valL r:=by
 induction l with
 |nil=>simp [valL]
 |cons d l ih=>simp only [List.cons_append,valL,ih,List.length_cons,Nat.pow_succ,Nat.mul_add, ←Nat.mul_assoc];rw [Nat.mul_comm (1000000000 ^ l.length) 1000000000];omega
theorem zS {l:List Nat}(h:okL l):valL l<1000000000 ^ l.length:=by
 induction l with
 |nil=>simp [valL]
 |cons d l ih=>
  rw [okL_cons]at h;have:=ih h.2;simp only [valL,List.length_cons,Nat.pow_succ];have h1:=h.1;have:1000000000*valL l+1000000000≤1000000000*1000000000 ^ l.length:=by rw [←Nat.mul_succ];exact Nat.mul_le_mul_left _ this
  omega
theorem zcw {l:List Nat}{n:Nat}(hn:n≤l.length)(h:∀ j,n≤j→l.getD j 0=0)(h2:n=0∨l.getD (n - 1) 0≠0):zaf l=l.take n:=by
 induction l generalizing n with
 |nil=>simp [zaf]
 |cons d l ih=>
  cases n with
  |zero=>
   have hd:=h 0 (Nat.le_refl _);have hl:zaf l=[]:=by rw [ih (n:=0) (Nat.zero_le _) (fun j _=>h (j+1) (Nat.zero_le _)) (.inl rfl)];simp
   simp at hd;simp [zaf,hd,hl]
  |succ n=>
   have hl:=ih (n:=n) (by simpa using hn) (fun j hj=>by have:=h (j+1) (by omega);simpa using this) (by
    cases n with
    |zero=>exact .inl rfl
    |succ n=>right;rcases h2 with h2|h2;omega;simpa using h2)
   rw [zaf,hl,List.take_succ_cons,if_neg];rintro⟨hd,hnil⟩;rcases h2 with h2|h2
   ·omega
   ·cases n with
    |zero=>simp at h2;exact h2 hd
    |succ n=>
     have:l.length=0:=by have:=congrArg List.length hnil;simp at this;simp [this]
     simp at hn;omega
theorem zbX {n:Nat}(h:n≠0):(limbs n).getD ((limbs n).length - 1) 0≠0:=by
 induction n using Nat.strongRecOn with
 |_ n ih=>
  rw [zaH h];by_cases h1:n / 1000000000=0
  ·rw [h1,zaA];simp;omega
  ·have:=ih (n / 1000000000) (by omega) h1;have hne:limbs (n / 1000000000)≠[]:=by rw [ne_eq,limbs_nil];exact h1
   obtain⟨d,r,hdr⟩:=List.exists_cons_of_ne_nil hne;rw [hdr]at this ⊢;simpa using this
theorem zaC {n k:Nat}(h:n<1000000000 ^ k):(limbs n).length≤k:=by
 induction k generalizing n with
 |zero=>have:n=0:=by simpa using h
        subst this;simp [zaA]
 |succ k ih=>
  by_cases h0:n=0
  ·subst h0;simp [zaA]
  ·rw [zaH h0,List.length_cons];have:n / 1000000000<1000000000 ^ k:=by rw [Nat.div_lt_iff_lt_mul (by omega)];rw [Nat.pow_succ]at h;exact h
   have:=ih this;omega
theorem getD_drop {α:Type}(l:List α)(a b:Nat)(d:α):(l.drop a).getD b d=l.getD (a+b) d:=by simp [List.getD_eq_getElem?_getD]
theorem getD_take {α:Type}(l:List α)(n i:Nat)(d:α)(h:i<n):(l.take n).getD i d=l.getD i d:=by simp [List.getD_eq_getElem?_getD,h]
theorem zbd {α:Type}(l:List α)(i:Nat)(d:α)(h:l.length≤i):l.getD i d=d:=by simp [List.getD_eq_getElem?_getD,h]
theorem zbF {α:Type}(l:List α)(n:Nat)(d:α)(h:n<l.length):l.take (n+1)=l.take n++[l.getD n d]:=by rw [List.take_succ_eq_append_getElem h,List.getD_eq_getElem?_getD,List.getElem?_eq_getElem h];rfl
theorem zd9:valD []=0:=rfl
theorem foldD(a:List UInt8)(n:Nat):a.foldl (fun n c=>10*n+(c.toNat - 48)) n=10 ^ a.length*n+valD a:=by
 induction a generalizing n with
 |nil=>simp [valD]
 |cons c a ih=>
  simp only [List.foldl_cons,List.length_cons,valD];rw [ih,ih (10*0+(c.toNat - 48)),Nat.mul_add,Nat.pow_succ,Nat.mul_zero,Nat.zero_add];have:10 ^ a.length*(10*n)=10 ^ a.length*10*n:=by rw [Nat.mul_assoc]
  omega
theorem zcv(c:UInt8)(a:List UInt8):valD (c::a)=10 ^ a.length*(c.toNat - 48)+valD a:=by rw [valD,List.foldl_cons,foldD];simp
theorem zcM(a b:List UInt8):valD (a++b)=10 ^ b.length*valD a+valD b:=by rw [valD,List.foldl_append,foldD];rfl
theorem zfL(a:List UInt8)(c:UInt8):valD (a++[c])=10*valD a+(c.toNat - 48):=by rw [zcM];simp [zcv,zd9]
theorem zdG {c:UInt8}(h:zci c=true):48≤c.toNat∧c.toNat≤57:=by simpa [zci] using h
theorem zie {a:List UInt8}(h:a.all zci=true):valD a<10 ^ a.length:=by
 induction a with
 |nil=>simp [valD]
 |cons c a ih=>simp only [List.all_cons,Bool.and_eq_true]at h;have h1:=zdG h.1;have h2:=ih h.2;rw [zcv,List.length_cons,Nat.pow_succ];have:10 ^ a.length*(c.toNat - 48)≤10 ^ a.length*9:=Nat.mul_le_mul_left _ (by omega);omega
theorem zon {l:List Nat}{a:List UInt8}{p:Nat}(ho:okL l)(hv:valL l+p*valD (a.take 0)=valD a):limbs (valD a)=zaf l:=by rw [zaN ho, ←hv,List.take_zero,zd9,Nat.mul_zero,Nat.add_zero]
def decF:Nat→Nat→List UInt8
 |0,_=>[]
 |f+1,n=>if n<10 then [UInt8.ofNat (48+n)]else decF f (n / 10)++[UInt8.ofNat (48+n % 10)]
def dec(n:Nat):List UInt8:=decF (n+1) n
theorem zvl:∀(f g n:Nat),n<f→n<g→decF f n=decF g n
 |0,_,n,h,_=>by omega
 |_,0,n,_,h=>by omega
 |f+1,g+1,n,h,h'=>by
  simp only [decF];split
  ·rfl
  ·rw [zvl f g (n / 10) (by omega) (by omega)]
theorem zbx {n:Nat}(h:n<10):dec n=[UInt8.ofNat (48+n)]:=by rw [dec,decF,if_pos h]
theorem zdr {n:Nat}(h:10≤n):dec n=dec (n / 10)++[UInt8.ofNat (48+n % 10)]:=by rw [dec,decF,if_neg (by omega),zvl n (n / 10+1) (n / 10) (by omega) (by omega)];rfl
theorem zcx {n:Nat}(h:n<10):(UInt8.ofNat (48+n)).toNat=48+n:=by simp only [UInt8.toNat_ofNat'];omega
theorem ze2(n:Nat):(dec n).all zci=true:=by
 induction n using Nat.strongRecOn with
 |_ n ih=>
  by_cases h:n<10
  ·rw [zbx h];simp [zci,zcx h];omega
  ·rw [zdr (by omega),List.all_append,ih (n / 10) (by omega)];have:n % 10<10:=by omega
   simp [zci,zcx this];omega
theorem zaw(n:Nat):valD (dec n)=n:=by
 induction n using Nat.strongRecOn with
 |_ n ih=>
  by_cases h:n<10
  ·rw [zbx h,zcv,zcx h];simp [zd9]
  ·rw [zdr (by omega),zfL,ih (n / 10) (by omega),zcx (by omega)];omega
theorem zln(n:Nat):dec n≠[]:=by
 by_cases h:n<10
 ·rw [zbx h];simp
 ·rw [zdr (by omega)];simp
theorem zc3(n:Nat):0<(dec n).length:=List.length_pos_iff.2 (zln n)
theorem zoN {n:Nat}(h:10≤n):((dec n).getD 0 0).toNat≠48:=by
 induction n using Nat.strongRecOn with
 |_ n ih=>
  rw [zdr h];have e:((dec (n / 10)++[UInt8.ofNat (48+n % 10)]).getD 0 0)=(dec (n / 10)).getD 0 0:=by rw [List.getD_eq_getElem?_getD,List.getD_eq_getElem?_getD,List.getElem?_append_left (zc3 _)]
  rw [e];by_cases h1:n / 10<10
  ·rw [zbx h1];simp [zcx h1];omega
  ·exact ih (n / 10) (by omega) (by omega)
theorem dec_len_one {n:Nat}:(dec n).length≤1↔n<10:=by
 constructor
 ·intro h;by_cases h1:n<10
  ·exact h1
  ·rw [zdr (by omega),List.length_append]at h;have:=zc3 (n / 10);rw [List.length_singleton]at h;omega
 ·intro h;rw [zbx h];simp
theorem zeH {n:Nat}:zN (dec n)=decide ((dec n).length≤1000):=by
 simp only [zN,ze2,Bool.and_true];have h1:decide (dec n=[])=false:=by simp [zln]
 by_cases h:n<10
 ·have:=dec_len_one.2 h;simp [h1,this]
 ·have h2:=zoN (n:=n) (by omega);have:¬(dec n).length≤1:=by rw [dec_len_one];exact h
  simp only [List.getD_eq_getElem?_getD]at h2;simp [h1,h2]
theorem zoM {a:List UInt8}(hd:a.all zci=true)(hne:a≠[])(hz:a.length≤1∨(a.getD 0 0).toNat≠48):dec (valD a)=a:=by
 induction h:a.length generalizing a with
 |zero=>exact absurd (List.length_eq_zero_iff.1 h) hne
 |succ k ih=>
  rcases List.eq_nil_or_concat a with rfl|⟨b,c,rfl⟩
  ·exact absurd rfl hne
  ·rw [List.concat_eq_append]at*;have hdc:zci c=true:=by rw [List.all_append,Bool.and_eq_true]at hd;simpa using hd.2
   have hdb:b.all zci=true:=by rw [List.all_append,Bool.and_eq_true]at hd;exact hd.1
   have hc:=zdG hdc;by_cases hb:b=[]
   ·subst hb;simp only [List.nil_append,zcv,List.length_nil,Nat.pow_zero,Nat.one_mul,zd9,Nat.add_zero];rw [zbx (by omega),show 48+(c.toNat - 48)=c.toNat by omega];simp
   ·have hbl:0<b.length:=List.length_pos_iff.2 hb;have hz':(b.getD 0 0).toNat≠48:=by
     rcases hz with hz|hz
     ·rw [List.length_append,List.length_singleton]at hz;omega
     ·have e:(b++[c]).getD 0 0=b.getD 0 0:=by
       rw [List.getD_eq_getElem?_getD,List.getD_eq_getElem?_getD,List.getElem?_append_left hbl]
      rwa [e]at hz
    have hb2:=ih hdb hb (.inr hz') (by simpa using h);rw [zfL];have hpos:0<valD b:=by
     cases b with
     |nil=>exact absurd rfl hb
     |cons x b=>rw [zcv];have hx:=zdG (c:=x) (by simp at hdb;exact hdb.1);simp at hz';have:0<10 ^ b.length*(x.toNat - 48):=Nat.mul_pos (Nat.pow_pos (by omega)) (by omega);omega
    rw [zdr (by omega),show (10*valD b+(c.toNat - 48)) / 10=valD b by omega,hb2,show 48+(10*valD b+(c.toNat - 48)) % 10=c.toNat by omega];simp
theorem validN_iff {a:List UInt8}:zN a=true↔(dec (valD a)=a∧a.length≤1000)∧a.all zci=true:=by
 constructor
 ·intro h;simp only [zN,Bool.and_eq_true,Bool.or_eq_true,Bool.not_eq_true',decide_eq_false_iff_not,decide_eq_true_eq]at h;obtain⟨⟨⟨h1,h2⟩,h3⟩,h4⟩:=h;exact⟨⟨zoM h4 h1 h3,h2⟩,h4⟩
 ·rintro⟨⟨h1,h2⟩,_⟩;rw [←h1,zeH,h1];simpa using h2
theorem zat {m n:Nat}(h:dec m=dec n):m=n:=by rw [←zaw m,h,zaw]
theorem zbY {n k:Nat}(h:n<10 ^ k)(hk:0<k):(dec n).length≤k:=by
 induction k generalizing n with
 |zero=>omega
 |succ k ih=>
  by_cases h1:n<10
  ·rw [zbx h1];simp
  ·rw [zdr (by omega),List.length_append];have hk0:0<k:=by
    cases k with
    |zero=>simp at h;omega
    |succ k=>omega
   have:=ih (n:=n / 10) (by rw [Nat.div_lt_iff_lt_mul (by omega)];rw [Nat.pow_succ]at h;exact h) hk0;simp;omega
theorem zbZ {n k:Nat}(h:(dec n).length≤k):n<10 ^ k:=by have:=zie (ze2 n);rw [zaw]at this;exact Nat.lt_of_lt_of_le this (Nat.pow_le_pow_right (by omega) h)
theorem bk_next {a:List UInt8}{l:List Nat}{i:Nat}(hi:i≤a.length)(hv:valL l+1000000000 ^ l.length*valD (a.take i)=valD a):
 valL (l++[valD ((a.take i).drop (i - 9))])+1000000000 ^ (l++[valD ((a.take i).drop (i - 9))]).length*valD (a.take (i - 9))=valD a:=by
 generalize hP:(1000000000:Nat) ^ l.length=p at*
 have e1:1000000000 ^ (l++[valD ((a.take i).drop (i - 9))]).length=p*1000000000:=by rw [List.length_append,List.length_singleton,Nat.pow_succ,hP]
 rw [e1,zav,hP, ←hv]
 simp only [valL,Nat.mul_zero,Nat.add_zero]
 have hsplit:valD (a.take i)=1000000000*valD (a.take (i - 9))+valD ((a.take i).drop (i - 9)):=by
  by_cases h9:i<9
  ·have:i - 9=0:=by omega
   rw [this,List.take_zero,List.drop_zero,zd9,Nat.mul_zero,Nat.zero_add]
  ·have e2:a.take i=(a.take i).take (i - 9)++(a.take i).drop (i - 9):=(List.take_append_drop _ _).symm;have e3:((a.take i).drop (i - 9)).length=9:=by simp;omega
   have e4:(a.take i).take (i - 9)=a.take (i - 9):=by rw [List.take_take,Nat.min_eq_left (by omega)]
   have:=congrArg valD e2;rw [zcM,e3,e4]at this;exact this
 rw [hsplit,Nat.mul_assoc,Nat.mul_add]
 omega
end Go.Pl
