/- A name put into a list in its order, as the reference does (ref35.insert). -/
import Derived.Test.YtfilkkmcagndlaaGreatDoorM2
import Derived.Test.YtfilkkmcagndlaaGreatDoorAbWalk
set_option linter.all false
namespace Go.Proofs
open Go.Ab Go.Cnt
theorem zhD(a b:Str):cmpS a b<0↔Op.bytesLess a b=true:=by
 unfold cmpS;split
 ·rename_i h;simp [h]
 ·rename_i h;split<;>simp [h]
def zcV(l:List Str):Prop:=∀ s∈l,s.length≤1000000
theorem zdG {l:List Str}{i:Nat}(h:i<l.length):l.getD i []∈l:=by rw [List.getD_eq_getElem?_getD,List.getElem?_eq_getElem h];exact List.getElem_mem h
theorem zhk(l:List Str)(n:Nat)(x:Str):(strs l).set n (.str x)=strs (l.set n x):=by simp [strs,List.map_set]
def midS(l:List Str)(i:Nat):List Str:=(l++[[]]).take (i+1)++l.drop i
theorem midS_len(l:List Str)(i:Nat)(h:i≤l.length):(midS l i).length=l.length+1:=by simp [midS];omega
theorem ztv(l:List Str):midS l l.length=l++[[]]:=by unfold midS;rw [List.drop_length,List.append_nil,List.take_of_length_le (by simp)]
theorem zxJ(l:List Str)(i:Nat)(h0:0<i)(h:i≤l.length):(midS l i).getD (i - 1) []=l.getD (i - 1) []:=by rw [List.getD_eq_getElem?_getD,List.getD_eq_getElem?_getD];unfold midS;rw [List.getElem?_append_left (by simp;omega),List.getElem?_take,if_pos (by omega),List.getElem?_append_left (by omega)]
theorem zdJ:∀(l:List Str) (i:Nat),i<l.length→l.drop i=l.getD i []::l.drop (i+1)
 |[],_,h=>by simp at h
 |x::l,0,_=>rfl
 |x::l,i+1,h=>by have:=zdJ l i (by simpa using h);simpa using this
theorem zxI(l:List Str)(i:Nat)(h0:0<i)(h:i≤l.length):(midS l i).set i (l.getD (i - 1) [])=midS l (i - 1):=by
 apply List.ext_getElem?;intro j;rw [List.getElem?_set];unfold midS;have hd:l.drop (i - 1)=l.getD (i - 1) []::l.drop i:=by have:=zdJ l (i - 1) (by omega);rwa [show i - 1+1=i by omega]at this
 rw [hd,show i - 1+1=i by omega];have l1:((l++[[]]).take (i+1)).length=i+1:=by simp;omega
 have l2:((l++[[]]).take i).length=i:=by simp;omega
 by_cases hj:i=j
 ·subst hj;rw [if_pos rfl,if_pos (by simp;omega),List.getElem?_append_right (by omega),l2];simp
 ·rw [if_neg hj];rcases Nat.lt_or_ge j i with h1|h1
  ·rw [List.getElem?_append_left (by omega),List.getElem?_append_left (by omega),List.getElem?_take,List.getElem?_take,if_pos (by omega),if_pos h1]
  ·rw [List.getElem?_append_right (by omega),List.getElem?_append_right (by omega),l1,l2,show j - i=(j - (i+1))+1 by omega,List.getElem?_cons_succ]
theorem midS_end(l:List Str)(s:Str)(p:Nat)(h:p≤l.length):(midS l p).set p s=l.take p++s::l.drop p:=by
 apply List.ext_getElem?;intro j;rw [List.getElem?_set];unfold midS;have l1:((l++[[]]).take (p+1)).length=p+1:=by simp;omega
 have l2:(l.take p).length=p:=by simp;omega
 by_cases hj:p=j
 ·subst hj;rw [if_pos rfl,if_pos (by simp;omega),List.getElem?_append_right (by omega),l2];simp
 ·rw [if_neg hj];rcases Nat.lt_or_ge j p with h1|h1
  ·rw [List.getElem?_append_left (by omega),List.getElem?_append_left (by omega),List.getElem?_take,List.getElem?_take,if_pos (by omega),if_pos h1,List.getElem?_append_left (by omega)]
  ·rw [List.getElem?_append_right (by omega),List.getElem?_append_right (by omega),l1,l2,show j - p=(j - (p+1))+1 by omega,List.getElem?_cons_succ]
section
variable {C:Cfg}{P:Program}{K:Out→St→Prop}{st:List Fr}{ops:Array Oper}{os:List Oper}{env:Env}{h:Hp}
theorem zAP(d:Tmp):AXg1 C P K st ops os (some d) (some false) .bad env h=AXr C P K st ops os ((d,undefV)::env) h:=zhK d .bad
theorem zAM(i:Nat)(d:Tmp)(acc:List (Nat×Foot)):AXg2 C P K st ops os i (some d) (some false) .bad acc env h=AXd C P K st ops os (i+1) acc ((d,undefV)::env) h:=by show (false=false∧_)=_;simp only [true_and];rfl
theorem zw1(b:V):zcZ (.bool true) (.bool true) b h=.ok true True (.bool true) h ⟨[],[],0,0⟩:=by unfold zcZ;cases hb:b.val<;>simp [V.val,V.cond,hb]
theorem zp7(nd:Prop):callM none nd h=.bad:=rfl
theorem zte:zeu .any=[]:=rfl
theorem nthV_end(l:List Str):nthV (strs l) l.length=.any:=by rw [ze6];simp [strs]
theorem rcmp_any(y:V):cRCmp [.any,y]=none:=by unfold cRCmp zH;rw [dif_neg];rintro⟨p,hp⟩;simp at hp
theorem lt_bad(H:Hp):aBin Tryz.prog .lss 3 undefV.val (.int .i64 0) H=⟨False,.any,H,[],[]⟩:=by simp [aBin,undefV,V.val,Tryz.underlying3,xEq,eqV,XR.ar,AR.bad]
end
attribute [go_sem] zAP zAM zp7 zte nthV_end rcmp_any lt_bad
def hasN(l:List Str)(s:Str):Bool:=decide (s=[]∨s∈l)
theorem ze7 {l:List Str}(hl:IncS l){s:Str}{p:Nat}(h:zgA l s p):s∈l↔p<l.length∧l.getD p []=s:=by
 constructor
 ·intro hm;obtain⟨i,hi,rfl⟩:=List.mem_iff_getElem.1 hm;have hg:l.getD i []=l[i]:=by rw [List.getD_eq_getElem?_getD,List.getElem?_eq_getElem hi];rfl
  rcases Nat.lt_trichotomy i p with h1|h1|h1
  ·have:=h.2.1 i h1;rw [hg,za8]at this;cases this
  ·subst h1;exact⟨hi,hg⟩
  ·have hp:p<l.length:=by omega
   have a:=List.pairwise_iff_getElem.1 hl p i hp hi h1;have b:=h.2.2 hp;rw [List.getD_eq_getElem?_getD,List.getElem?_eq_getElem hp]at b;simp only [Option.getD_some]at b;rw [a]at b;cases b
 ·rintro⟨h1,rfl⟩;exact zdG h1
set_option maxHeartbeats 4000000 in
set_option maxRecDepth 100000 in
theorem ins_has(l:List Str)(s:Str)(hl:l.length≤1000000)(hi:IncS l)(hs:zcV l)(hx:s.length≤1000000)(hh:hasN l s=true):
 NCall Tryz.prog 39 [.sl 0 0 l.length 1 none,.str s] [.cells (strs l)] [] (.sl 0 0 (addS l s).length 1 none) ⟨[(0,.cells (strs (addS l s)))],1⟩:=by
 refine NCall.walkW (rs:=[.tmp 4]) [0,1,4,5,6,19,37,47] [] 1 [] mixed (zf zaF zh) (zg) zrW Tryz.func39 rfl Tryz.ntmps39 rfl (by kernel_rfl) (by simp) (by simp) (by simp) (by simp) ?_
 simp (disch:=first|assumption|(push_cast<;>omega)|omega) only [go_sem]
 refine AXs.loop mixed (zf zaF zh) (zg) (fun i:Nat=>[(0,.sl 0 0 l.length 1 none),(1,.str s),(5,.int .i64 i)]) (fun _=>⟨[(0,.cells (strs l))],1⟩)
  (fun i=>i≤l.length∧∀ j,j<i→Op.bytesLess (l.getD j []) s=true) (fun i=>l.length - i) 0 (by kernel_rfl)
  ⟨Nat.zero_le _,fun j hj=>by omega⟩ (Sub.of [] rfl ?_ ?_ (by decide) (fun b hb hw=>by obtain rfl:=Nat.lt_one_iff.1 hb;first|rfl|exact absurd rfl (by simpa using hw))) ?_
 ·simp only [go_sem]
 ·simp only [go_sem]
 rintro i ⟨h1,h2⟩
 by_cases hil:i<l.length
 ·have e1:decide ((i:Int)<(l.length:Int))=true:=decide_eq_true (by omega)
  have sm:=hs _ (zdG hil)
  simp (disch:=first|assumption|(push_cast<;>omega)|omega) only [go_sem,e1]
  (repeat refine sdC ?_)
  refine AXc.introP (fun h3=>?_) (fun h3=>?_)
  ·have h4:=(zhD _ _).1 h3
   simp (disch:=first|assumption|(push_cast<;>omega)|omega) only [go_sem]
   refine zi (i+1) ⟨by omega,fun j hj=>?_⟩ (by omega) (Sub.of [] rfl ?_ ?_ (by decide) (fun b hb hw=>by obtain rfl:=Nat.lt_one_iff.1 hb;first|rfl|exact absurd rfl (by simpa using hw)))
   ·by_cases hji:j<i
    ·exact h2 j hji
    ·obtain rfl:j=i:=by omega
     exact h4
   ·simp only [go_sem]
    simp
   ·simp only [go_sem]
  ·have h4:Op.bytesLess (l.getD i []) s=false:=by
    cases e:Op.bytesLess (l.getD i []) s with
    |false=>rfl
    |true=>exact absurd ((zhD _ _).2 e) h3
   have hpl:zgA l s i:=⟨h1,h2,fun _=>h4⟩
   have hm:=ze7 hi hpl
   obtain⟨i1,i2⟩:=ziJ l s i hpl
   simp (disch:=first|assumption|(push_cast<;>omega)|omega) only [go_sem]
   refine AXa.go mixed (zf zaF zh) (zg) (by kernel_rfl) ?_
   have hadd:addS l s=l:=by
    unfold addS;split
    ·rfl
    ·rename_i hse;exact i1 (hm.1 ((of_decide_eq_true hh).resolve_left hse))
   rw [hadd]
   by_cases hse:s=[]
   ·have es:decide (s=[])=true:=decide_eq_true hse
    simp (disch:=first|assumption|(push_cast<;>omega)|omega) only [go_sem,e1,es]
    (repeat refine sdC ?_)
    refine⟨[(4,.sl 0 0 l.length 1 none)],Sub.of [] rfl ?_ ?_ (by decide) (fun b hb hw=>by obtain rfl:=Nat.lt_one_iff.1 hb;first|rfl|exact absurd rfl (by simpa using hw)),rfl⟩
    ·simp only [go_sem]
    ·simp only [go_sem]
   ·have es:decide (s=[])=false:=decide_eq_false hse
    have e3:=(hm.1 ((of_decide_eq_true hh).resolve_left hse)).2
    simp (disch:=first|assumption|(push_cast<;>omega)|omega) only [go_sem,e1,es,e3]
    (repeat refine sdC ?_)
    refine⟨[(4,.sl 0 0 l.length 1 none)],Sub.of [] rfl ?_ ?_ (by decide) (fun b hb hw=>by obtain rfl:=Nat.lt_one_iff.1 hb;first|rfl|exact absurd rfl (by simpa using hw)),rfl⟩
    ·simp only [go_sem]
    ·simp only [go_sem]
 ·obtain rfl:i=l.length:=by omega
  have e1:decide ((l.length:Int)<(l.length:Int))=false:=decide_eq_false (by omega)
  have hpl:zgA l s l.length:=⟨h1,h2,fun h=>absurd h (Nat.lt_irrefl _)⟩
  have hm:=ze7 hi hpl
  obtain⟨i1,i2⟩:=ziJ l s l.length hpl
  simp (disch:=first|assumption|(push_cast<;>omega)|omega) only [go_sem,e1]
  refine AXa.go mixed (zf zaF zh) (zg) (by kernel_rfl) ?_
  have hse:s=[]:=(of_decide_eq_true hh).resolve_right fun h=>absurd (hm.1 h).1 (Nat.lt_irrefl _)
  have hadd:addS l s=l:=by unfold addS;rw [if_pos hse]
  rw [hadd]
  have es:decide (s=[])=true:=decide_eq_true hse
  simp (disch:=first|assumption|(push_cast<;>omega)|omega) only [go_sem,e1,es,zhK,skV,zw1]
  (repeat refine sdC ?_)
  refine⟨[(4,.sl 0 0 l.length 1 none)],Sub.of [] rfl ?_ ?_ (by decide) (fun b hb hw=>by obtain rfl:=Nat.lt_one_iff.1 hb;first|rfl|exact absurd rfl (by simpa using hw)),rfl⟩
  ·simp only [go_sem]
  ·simp only [go_sem]
set_option maxHeartbeats 4000000 in
set_option maxRecDepth 100000 in
theorem ins_new(l:List Str)(s:Str)(hl:l.length≤1000000)(hi:IncS l)(hs:zcV l)(hx:s.length≤1000000)(hh:hasN l s=false):
 NCall Tryz.prog 39 [.sl 0 0 l.length 1 none,.str s] [.cells (strs l)] [0] (.sl 1 0 (addS l s).length 1 none) ⟨[(1,.cells (strs (addS l s)))],2⟩:=by
 refine NCall.walkW (rs:=[.tmp 4]) [0,1,4,5,6,19,37,47] [] 1 [0] mixed (zf zaF zh) (zg) zrW Tryz.func39 rfl Tryz.ntmps39 rfl (by kernel_rfl) (by simp) (by simp) (by simp) (by simp) ?_
 simp (disch:=first|assumption|(push_cast<;>omega)|omega) only [go_sem]
 refine AXs.loop mixed (zf zaF zh) (zg) (fun i:Nat=>[(0,.sl 0 0 l.length 1 none),(1,.str s),(5,.int .i64 i)]) (fun _=>⟨[(0,.cells (strs l))],1⟩)
  (fun i=>i≤l.length∧∀ j,j<i→Op.bytesLess (l.getD j []) s=true) (fun i=>l.length - i) 0 (by kernel_rfl)
  ⟨Nat.zero_le _,fun j hj=>by omega⟩ (Sub.of [] rfl ?_ ?_ (by decide) (fun b hb hw=>by obtain rfl:=Nat.lt_one_iff.1 hb;first|rfl|exact absurd rfl (by simpa using hw))) ?_
 ·simp only [go_sem]
 ·simp only [go_sem]
 rintro i ⟨h1,h2⟩
 by_cases hil:i<l.length
 ·have e1:decide ((i:Int)<(l.length:Int))=true:=decide_eq_true (by omega)
  have sm:=hs _ (zdG hil)
  simp (disch:=first|assumption|(push_cast<;>omega)|omega) only [go_sem,e1]
  (repeat refine sdC ?_)
  refine AXc.introP (fun h3=>?_) (fun h3=>?_)
  ·have h4:=(zhD _ _).1 h3
   simp (disch:=first|assumption|(push_cast<;>omega)|omega) only [go_sem]
   refine zi (i+1) ⟨by omega,fun j hj=>?_⟩ (by omega) (Sub.of [] rfl ?_ ?_ (by decide) (fun b hb hw=>by obtain rfl:=Nat.lt_one_iff.1 hb;first|rfl|exact absurd rfl (by simpa using hw)))
   ·by_cases hji:j<i
    ·exact h2 j hji
    ·obtain rfl:j=i:=by omega
     exact h4
   ·simp only [go_sem]
    simp
   ·simp only [go_sem]
  ·have h4:Op.bytesLess (l.getD i []) s=false:=by
    cases e:Op.bytesLess (l.getD i []) s with
    |false=>rfl
    |true=>exact absurd ((zhD _ _).2 e) h3
   have hpl:zgA l s i:=⟨h1,h2,fun _=>h4⟩
   have hm:=ze7 hi hpl
   obtain⟨i1,i2⟩:=ziJ l s i hpl
   simp (disch:=first|assumption|(push_cast<;>omega)|omega) only [go_sem]
   refine AXa.go mixed (zf zaF zh) (zg) (by kernel_rfl) ?_
   have hno:=of_decide_eq_false hh
   have hse:¬s=[]:=fun h=>hno (.inl h)
   have es:decide (s=[])=false:=decide_eq_false hse
   have e3:¬l.getD i []=s:=fun h=>hno (.inr (hm.2 ⟨hil,h⟩))
   have e4:decide (l.getD i []=s)=false:=decide_eq_false e3
   have hadd:addS l s=l.take i++s::l.drop i:=by unfold addS;rw [if_neg hse];exact i2 fun h=>e3 h.2
   simp (disch:=first|assumption|(push_cast<;>omega)|omega) only [go_sem,e1,es,e4]
   (repeat refine sdC ?_)
   refine AXs.loop mixed (zf zaF zh) (zg) (fun m:Nat=>[(6,.int .i64 m),(0,.sl 1 0 (l.length+1) 1 none),(1,.str s),(5,.int .i64 i)]) (fun m=>⟨[(1,.cells (strs (midS l m)))],2⟩)
    (fun m=>i≤m∧m≤l.length) (fun m=>m - i) l.length (by kernel_rfl) ⟨by omega,Nat.le_refl _⟩ (Sub.of [(1,2)] rfl ?_ ?_ (by decide) (fun b hb hw=>absurd (Nat.lt_one_iff.1 hb) (by simpa using hw))) ?_
   ·simp only [go_sem]
    simp
   ·simp only [go_sem]
    rw [List.take_of_length_le (Nat.le_refl _),ztv]
   rintro m ⟨h6,h7⟩
   have hml:=midS_len l m h7
   simp only [go_sem]
   refine AXc.introP (fun h8=>?_) (fun h8=>?_)
   ·have b1:=zxJ l m (by omega) h7
    have b2:=zxI l m (by omega) h7
    simp (disch:=first|assumption|(push_cast<;>omega)|omega) only [go_sem,hml]
    (repeat refine sdC ?_)
    rw [zhk,b1,b2]
    refine zi (m - 1) ⟨by omega,by omega⟩ (by omega) (Sub.of [] rfl ?_ ?_ (by decide) (fun b hb hw=>absurd (Nat.lt_one_iff.1 hb) (by simpa using hw)))
    ·simp only [go_sem]
     simp only [V.int.injEq,true_and];omega
    ·simp only [go_sem]
   ·obtain rfl:m=i:=by omega
    have b2:=midS_end l s m h7
    simp only [go_sem]
    refine AXa.go mixed (zf zaF zh) (zg) (by kernel_rfl) ?_
    rw [hadd]
    simp (disch:=first|assumption|(push_cast<;>omega)|omega) only [go_sem,hml,zhk,b2]
    (repeat refine sdC ?_)
    have hlen:(l.take m++s::l.drop m).length=l.length+1:=by simp;omega
    refine⟨[(4,.sl 1 0 (l.length+1) 1 none)],Sub.of [] rfl ?_ ?_ (by decide) (fun b hb hw=>absurd (Nat.lt_one_iff.1 hb) (by simpa using hw)),by rw [hlen];rfl⟩
    ·simp only [go_sem]
    ·simp only [go_sem]
 ·obtain rfl:i=l.length:=by omega
  have e1:decide ((l.length:Int)<(l.length:Int))=false:=decide_eq_false (by omega)
  have hpl:zgA l s l.length:=⟨h1,h2,fun h=>absurd h (Nat.lt_irrefl _)⟩
  have hm:=ze7 hi hpl
  obtain⟨i1,i2⟩:=ziJ l s l.length hpl
  simp (disch:=first|assumption|(push_cast<;>omega)|omega) only [go_sem,e1]
  refine AXa.go mixed (zf zaF zh) (zg) (by kernel_rfl) ?_
  have hno:=of_decide_eq_false hh
  have hse:¬s=[]:=fun h=>hno (.inl h)
  have es:decide (s=[])=false:=decide_eq_false hse
  have hadd:addS l s=l++[s]:=by unfold addS;rw [if_neg hse,i2 fun h=>absurd h.1 (Nat.lt_irrefl _),List.take_length,List.drop_length]
  rw [hadd]
  simp (disch:=first|assumption|(push_cast<;>omega)|omega) only [go_sem,e1,es,zim]
  (repeat refine sdC ?_)
  refine AXs.rounds mixed (zf zaF zh) zg [] (by kernel_rfl) ?_
  have e2:¬((l.length:Int)<((l.length+1:Nat):Int) - 1):=by omega
  simp (disch:=first|assumption|(push_cast<;>omega)|omega) only [go_sem,e2,decide_false]
  refine AXa.go mixed (zf zaF zh) (zg) (by kernel_rfl) ?_
  have hset:(l.take l.length++[[]]).set l.length s=l++[s]:=by simp
  have hlen:(l.take l.length++[[]]).length=l.length+1:=by simp
  simp (disch:=first|assumption|(push_cast<;>omega)|omega) only [go_sem,zhk,hset,hlen]
  (repeat refine sdC ?_)
  have hlen2:(l++[s]).length=l.length+1:=by simp
  refine⟨[(4,.sl 1 0 (l.length+1) 1 none)],Sub.of [(1,2)] rfl ?_ ?_ (by decide) (fun b hb hw=>absurd (Nat.lt_one_iff.1 hb) (by simpa using hw)),by rw [hlen2];rfl⟩
  ·simp only [go_sem]
  ·simp only [go_sem]
theorem zlL(k:IntKind)(n:Int)(H:Hp):zal Tryz.prog 25 .nilS (.int k n) H=⟨False,.any,H,[],[]⟩:=by simp [zal,Tryz.underlying25,Tryz.size9,AR.bad]
theorem zlI(H:Hp):zck Tryz.prog 9 .any H=⟨False,.any,H,[],[]⟩:=by simp [zck,Tryz.agg9,Tryz.size9,AR.bad]
theorem ins_nilN(s:Str)(hx:s.length≤1000000)(hne:s≠[]):NCall Tryz.prog 39 [.nilS,.str s] [] [] (.sl 0 0 1 1 none) ⟨[(0,.cells (strs [s]))],1⟩:=by
 have es:decide (s=[])=false:=decide_eq_false hne;refine NCall.walk (rs:=[.tmp 4]) [0,1,4,5,6,19,37,47] [] 0 mixed (zf zaF zh) (zg) zrW Tryz.func39 rfl Tryz.ntmps39 rfl (by kernel_rfl) (by simp) (by simp) (by simp) ?_;simp only [go_sem];refine AXs.rounds mixed (zf zaF zh) zg [] (by kernel_rfl) ?_;simp (disch:=first|assumption|(push_cast<;>omega)|omega) only [go_sem,zlL,zlI];refine AXa.go mixed (zf zaF zh) (zg) (by kernel_rfl) ?_;simp (disch:=first|assumption|(push_cast<;>omega)|omega) only [go_sem,zlL,zlI,es,zim]
 (repeat refine sdC ?_);refine AXs.rounds mixed (zf zaF zh) zg [] (by kernel_rfl) ?_;simp (disch:=first|assumption|(push_cast<;>omega)|omega) only [go_sem];refine AXa.go mixed (zf zaF zh) (zg) (by kernel_rfl) ?_;simp (disch:=first|assumption|(push_cast<;>omega)|omega) only [go_sem];refine⟨[(4,.sl 0 0 1 1 none)],Sub.of [(0,1)] rfl ?_ ?_ (by decide) (fun b hb hw=>absurd hb (Nat.not_lt_zero b)),rfl⟩
 ·simp only [go_sem]
 ·simp only [go_sem];rfl
theorem ins_nil0:NCall Tryz.prog 39 [.nilS,.str []] [] [] .nilS ⟨[],0⟩:=by
 refine NCall.walk (rs:=[.tmp 4]) [0,1,4,5,6,19,37,47] [] 0 mixed (zf zaF zh) (zg) zrW Tryz.func39 rfl Tryz.ntmps39 rfl (by kernel_rfl) (by simp) (by simp) (by simp) ?_;simp only [go_sem];refine AXs.rounds mixed (zf zaF zh) zg [] (by kernel_rfl) ?_;simp (disch:=first|assumption|(push_cast<;>omega)|omega) only [go_sem,zlL,zlI];refine AXa.go mixed (zf zaF zh) (zg) (by kernel_rfl) ?_;simp (disch:=first|assumption|(push_cast<;>omega)|omega) only [go_sem,zlL,zlI,zhK,skV,zw1]
 (repeat refine sdC ?_);refine⟨[(4,.nilS)],Sub.of [] rfl ?_ ?_ (by decide) (fun b hb hw=>absurd hb (Nat.not_lt_zero b)),rfl⟩
 ·simp only [go_sem]
 ·simp only [go_sem]
def InsR(args:List V)(H:Hp)(r:AR):Prop:=
 ∃ s:Str,s.length≤1000000∧(∀ b x,H.get b=some x→b<H.next)∧
  ((args=[.nilS,.str s]∧s=[]∧r=⟨True,.nilS,H,[],[]⟩)∨
   (args=[.nilS,.str s]∧s≠[]∧r=⟨True,.sl H.next 0 1 1 none,⟨(H.next,.cells (strs [s]))::H.bs,H.next+1⟩,[],[]⟩)∨
   (∃ b l,args=[.sl b 0 l.length 1 none,.str s]∧H.get b=some (.cells (strs l))∧l.length≤1000000∧IncS l∧zcV l∧
    r=if hasN l s=true then⟨True,.sl b 0 l.length 1 none,H,[b],[]⟩else⟨True,.sl H.next 0 (addS l s).length 1 none,(H.kill b).new (.cells (strs (addS l s))),[b],[b]⟩))
theorem ziu(s:Str):∀ x∈[V.nilS,V.str s],Pure x:=by
 intro x hx;simp only [List.mem_cons,List.not_mem_nil,or_false]at hx;rcases hx with rfl|rfl
 ·exact .nilS
 ·exact .str _
theorem slArgs(b n:Nat)(k:Option Nat)(s:Str):LRel (Rn (fun i=>[b].getD i 0) (· <1)) [V.sl 0 0 n 1 k,.str s] [.sl b 0 n 1 k,.str s]:=by
 refine⟨rfl,fun i y z hy hz=>?_⟩;match i with
 |0=>cases hy;cases hz;exact .sl (π:=fun i=>[b].getD i 0) (b:=0) (Nat.lt_one_iff.2 rfl) (.inr rfl)
 |1=>cases hy;cases hz;exact .same (.str _)
 |i+2=>simp at hy
theorem insR_ok:∀ args H r,InsR args H r→HCall Tryz.prog 39 args H r:=by
 rintro args H r ⟨s,hs,hk,h⟩;rcases h with⟨rfl,rfl,rfl⟩|⟨rfl,hne,rfl⟩|⟨b,l,rfl,hb,hl,hi,hss,rfl⟩
 ·exact HCall.none ins_nil0 .nilS [] _ H rfl .nil (zu (ziu _)) (fun i x hx=>by simp at hx) (fun i x hx=>by simp at hx) hk
 ·exact HCall.fresh (F:=[]) (ins_nilN s hs hne) (zV _) [] _ H rfl .nil (zu (ziu _)) (fun i x hx=>by simp at hx) (fun i x hx=>by simp at hx) hk
 ·cases hh:hasN l s with
  |true=>
   have h:=ins_has l s hl hi hss hs hh;have hadd:addS l s=l:=by
    unfold addS;split
    ·rfl
    ·rename_i hse;refine IncS.ext (zhA hi s) hi fun y=>?_;rw [mem_insS];refine⟨?_,.inr⟩;rintro(rfl|h)
     ·exact(of_decide_eq_true hh).resolve_left hse
     ·exact h
   rw [hadd]at h;rw [if_pos rfl];exact HCall.view1 h (zV _) b _ H (slArgs b l.length none s) hb hk
  |false=>rw [if_neg Bool.false_ne_true];exact HCall.move1 (ins_new l s hl hi hss hs hh) (zV _) (zV _) b _ H (slArgs b l.length none s) hb hk
theorem zf1 {args:List V}{H:Hp}{r r':AR}(h:InsR args H r)(h':InsR args H r'):r'=r:=by
 obtain⟨s,_,_,h⟩:=h;obtain⟨s',_,_,h'⟩:=h';rcases h with⟨e,hs,rfl⟩|⟨e,hs,rfl⟩|⟨b,l,e,hb,_,_,_,rfl⟩<;>rcases h' with⟨e',hs',rfl⟩|⟨e',hs',rfl⟩|⟨b',l',e',hb',_,_,_,rfl⟩<;>rw [e]at e'<;>simp only [List.cons.injEq,V.sl.injEq,V.str.injEq,and_true,true_and,reduceCtorEq,false_and]at e'
 all_goals first
  |rfl
  |exact absurd (e'.symm.trans hs) hs'
  |exact absurd (e'.trans hs') hs
  |(rw [e'];done)
  |(obtain⟨⟨rfl,_⟩,rfl⟩:=e'
    rw [hb]at hb'
    have:strs l=strs l':=by simpa using hb'
    rw [zco this])
noncomputable def Δi:FuncId→List V→Hp→Option AR:=zc4 39 (conD InsR) noΔ
theorem zgV:zbJ Tryz.prog Δi:=zaE (zbb insR_ok) zg
def zmt(l:List Str):Prop:=l.length≤1000000∧IncS l∧zcV l
theorem Δi_has(b:Nat)(l:List Str)(n:Nat)(s:Str)(bs:List (Nat×Blk))(nx:Nat)(hb:zaB bs b=some (.cells (strs l)))(hn:n=l.length)(h:zmt l)(hs:s.length≤1000000)(hh:hasN l s=true)(hk:((keysB bs).all fun b=>decide (b<nx))=true):
 Δi 39 [.sl b 0 n 1 none,.str s] ⟨bs,nx⟩=some ⟨True,.sl b 0 l.length 1 none,⟨bs,nx⟩,[b],[]⟩:=by
 subst hn
 have hR:InsR [.sl b 0 l.length 1 none,.str s] ⟨bs,nx⟩ ⟨True,.sl b 0 l.length 1 none,⟨bs,nx⟩,[b],[]⟩:=⟨s,hs,zbA hk,.inr (.inr ⟨b,l,rfl,(zaU bs b).trans hb,h.1,h.2.1,h.2.2,by rw [if_pos hh]⟩)⟩
 exact zaW hR fun r' h'=>zf1 hR h'
theorem Δi_new(b:Nat)(l:List Str)(n:Nat)(s:Str)(bs:List (Nat×Blk))(nx:Nat)(hb:zaB bs b=some (.cells (strs l)))(hn:n=l.length)(h:zmt l)(hs:s.length≤1000000)(hh:hasN l s=false)(hk:((keysB bs).all fun b=>decide (b<nx))=true):
 Δi 39 [.sl b 0 n 1 none,.str s] ⟨bs,nx⟩=some ⟨True,.sl nx 0 (addS l s).length 1 none,((⟨bs,nx⟩:Hp).kill b).new (.cells (strs (addS l s))),[b],[b]⟩:=by
 subst hn
 have hR:InsR [.sl b 0 l.length 1 none,.str s] ⟨bs,nx⟩ ⟨True,.sl nx 0 (addS l s).length 1 none,((⟨bs,nx⟩:Hp).kill b).new (.cells (strs (addS l s))),[b],[b]⟩:=⟨s,hs,zbA hk,.inr (.inr ⟨b,l,rfl,(zaU bs b).trans hb,h.1,h.2.1,h.2.2,by rw [if_neg (by rw [hh];exact Bool.false_ne_true)]⟩)⟩
 exact zaW hR fun r' h'=>zf1 hR h'
theorem zY(s:Str)(bs:List (Nat×Blk))(nx:Nat)(hs:s.length≤1000000)(hne:s≠[])(hk:((keysB bs).all fun b=>decide (b<nx))=true):
 Δi 39 [.nilS,.str s] ⟨bs,nx⟩=some ⟨True,.sl nx 0 1 1 none,⟨(nx,.cells (strs [s]))::bs,nx+1⟩,[],[]⟩:=by
 have hR:InsR [.nilS,.str s] ⟨bs,nx⟩ ⟨True,.sl nx 0 1 1 none,⟨(nx,.cells (strs [s]))::bs,nx+1⟩,[],[]⟩:=⟨s,hs,zbA hk,.inr (.inl ⟨rfl,hne,rfl⟩)⟩
 exact zaW hR fun r' h'=>zf1 hR h'
theorem zZ(s:Str)(bs:List (Nat×Blk))(nx:Nat)(hne:s=[])(hk:((keysB bs).all fun b=>decide (b<nx))=true):
 Δi 39 [.nilS,.str s] ⟨bs,nx⟩=some ⟨True,.nilS,⟨bs,nx⟩,[],[]⟩:=by
 have hR:InsR [.nilS,.str s] ⟨bs,nx⟩ ⟨True,.nilS,⟨bs,nx⟩,[],[]⟩:=⟨s,by rw [hne];exact Nat.zero_le _,zbA hk,.inl ⟨rfl,hne,rfl⟩⟩
 exact zaW hR fun r' h'=>zf1 hR h'
noncomputable def iK(o:Option Blk)(n:Nat)(s:Str)(b:Nat)(bs:List (Nat×Blk))(nx:Nat):Option AR:=match o with|some _=>Δi 39 [.sl b 0 n 1 none,.str s] ⟨bs,nx⟩|none=>Δi 39 [.sl b 0 n 1 none,.str s] ⟨bs,nx⟩
theorem zaJ(b n:Nat)(s:Str)(bs:List (Nat×Blk))(nx:Nat):Δi 39 [.sl b 0 n 1 none,.str s] ⟨bs,nx⟩=iK (zaB bs b) n s b bs nx:=by unfold iK;split<;>rfl
theorem zaL(l:List Str)(n:Nat)(s:Str)(b:Nat)(bs:List (Nat×Blk))(nx:Nat)(hb:zaB bs b=some (.cells (strs l)))(hn:n=l.length)(h:zmt l)(hs:s.length≤1000000)(hh:hasN l s=true)(hk:((keysB bs).all fun b=>decide (b<nx))=true):
 iK (some (.cells (strs l))) n s b bs nx=some ⟨True,.sl b 0 l.length 1 none,⟨bs,nx⟩,[b],[]⟩:=Δi_has b l n s bs nx hb hn h hs hh hk
theorem zaK(l:List Str)(n:Nat)(s:Str)(b:Nat)(bs:List (Nat×Blk))(nx:Nat)(hb:zaB bs b=some (.cells (strs l)))(hn:n=l.length)(h:zmt l)(hs:s.length≤1000000)(hh:hasN l s=false)(hk:((keysB bs).all fun b=>decide (b<nx))=true):
 iK (some (.cells (strs l))) n s b bs nx=some ⟨True,.sl nx 0 (addS l s).length 1 none,((⟨bs,nx⟩:Hp).kill b).new (.cells (strs (addS l s))),[b],[b]⟩:=Δi_new b l n s bs nx hb hn h hs hh hk
theorem zdm {l:List Str}(hi:IncS l){s:Str}(hh:hasN l s=true):addS l s=l:=by
 unfold addS;split
 ·rfl
 ·rename_i hse;refine IncS.ext (zhA hi s) hi fun y=>?_;rw [mem_insS];refine⟨?_,.inr⟩;rintro(rfl|h)
  ·exact(of_decide_eq_true hh).resolve_left hse
  ·exact h
end Go.Proofs
