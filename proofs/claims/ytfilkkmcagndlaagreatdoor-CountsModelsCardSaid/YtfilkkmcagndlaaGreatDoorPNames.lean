/- Names in their order, each once, as the program makes them: slices.Clone, DeleteFunc, Sort, Compact. -/
import Derived.Test.YtfilkkmcagndlaaGreatDoorVM1
import Derived.Test.YtfilkkmcagndlaaGreatDoorAbCut
import Derived.Test.YtfilkkmcagndlaaGreatDoorVConc
set_option linter.all false
namespace Go.Proofs
open Go.Ab Go.Cnt Go.Shelf Go.Sort Go.Lib
theorem call91:zi Tryz.prog 91:=fun a w=>by kernel_rfl
theorem call36:zi Tryz.prog 36:=fun a w=>by kernel_rfl
theorem call59:zi Tryz.prog 59:=fun a w=>by kernel_rfl
theorem call61:zi Tryz.prog 61:=fun a w=>by kernel_rfl
theorem call62:zi Tryz.prog 62:=fun a w=>by kernel_rfl
theorem eqN_nil(H:Hp):aBin Tryz.prog .eql 25 .nilS .nilS H=⟨True,.bool true,H,[],[]⟩:=by simp [aBin,xEq,eqV,Tryz.underlying25,XR.ar]
theorem eqN_sl(b o l s:Nat)(k:Option Nat)(H:Hp):aBin Tryz.prog .eql 25 (.sl b o l s k) .nilS H=⟨True,.bool false,H,[],[]⟩:=by simp [aBin,xEq,eqV,Tryz.underlying25,XR.ar]
attribute [go_sem] eqN_nil eqN_sl
theorem zt3(s:Str):PCall Tryz.prog 60 [.str s] (.ret (.bool (decide (s=[])))):=by refine PCall.walk (rs:=[.tmp 2]) [0,2] [] mixed (zh) (zg) call60 Tryz.func60 rfl Tryz.ntmps60 rfl (by kernel_rfl) (by simp) (by simp [push_cast]) ?_;simp only [go_sem]
noncomputable def cIsE:List V→Option PR:=zD (fun a:Str=>[.str a]) (fun _=>True) fun a=>.ret (.bool (decide (a=[])))
@[go_sem] theorem cIsE_eq(a:Str):cIsE [.str a]=some (.ret (.bool (decide (a=[])))):=zn (pat:=fun a:Str=>[V.str a]) (fun x y h=>by simpa using h) a trivial
theorem ziB:∀ args r,cIsE args=some r→PCall Tryz.prog 60 args r:=zo fun a _=>zt3 a
def pos0:List Str→Nat
 |[]=>0
 |s::l=>if s=[]then 0 else pos0 l+1
theorem zwE:∀ {L:List Str} {i:Nat},(∀ j,j<i→L.getD j []≠[])→i<L.length→L.getD i []=[]→pos0 L=i
 |[],_,_,h,_=>by simp at h
 |s::l,0,_,_,h=>by
  have h':s=[]:=by simpa using h
  rw [pos0,if_pos h']
 |s::l,i+1,h,hi,he=>by
  have h0:s≠[]:=by have:=h 0 (by omega);simpa using this
  rw [pos0,if_neg h0,zwE (L:=l) (i:=i) (fun j hj=>by have:=h (j+1) (by omega);simpa using this) (by simpa using hi) (by simpa using he)]
theorem zmH:∀ {L:List Str},(∀ j,j<L.length→L.getD j []≠[])→pos0 L=L.length
 |[],_=>rfl
 |s::l,h=>by
  have h0:s≠[]:=by have:=h 0 (by simp);simpa using this
  rw [pos0,if_neg h0,zmH (L:=l) (fun j hj=>by have:=h (j+1) (by simpa using hj);simpa using this),List.length_cons]
theorem zoQ:∀(L:List Str) (j:Nat),j<pos0 L→L.getD j []≠[]
 |[],j,h=>by simp [pos0]at h
 |s::l,j,h=>by
  rw [pos0]at h;split at h
  ·omega
  ·rename_i h0;cases j with
   |zero=>simpa using h0
   |succ j=>have:=zoQ l j (by omega);simpa using this
theorem zwD:∀(L:List Str),pos0 L≤L.length
 |[]=>Nat.le_refl _
 |s::l=>by rw [pos0];split;·omega
           have:=zwD l;simp;omega
def ixV(L:List Str):Int:=if pos0 L<L.length then(pos0 L:Int)else -1
set_option maxHeartbeats 4000000 in
theorem zx5(L:List Str)(hL:L.length≤1000000):PCall Tryz.prog 91 [.fs (strs L) L.length,.fn 60 []] (.ret (.int .i64 (ixV L))):=by
 refine PCall.walk (rs:=[.tmp 4]) [0,1,4,5,7,8,9,16] [] mixed (zf ziB zh) (zg) call91 Tryz.func91 rfl Tryz.ntmps91 rfl (by kernel_rfl) (by simp) (by simp [push_cast]) ?_;simp only [go_sem];refine AXs.loop mixed (zf ziB zh) (zg) (fun i:Nat=>[(0,.fs (strs L) L.length),(1,.fn 60 []),(7,.int .i64 L.length),(8,.int .i64 i)]) (fun _=>⟨[],0⟩) (fun i=>i≤L.length∧∀ j,j<i→L.getD j []≠[]) (fun i=>L.length - i) 0 (by kernel_rfl) ⟨Nat.zero_le _,fun j hj=>by omega⟩ (Sub.of0 [] rfl rfl ?_ ?_) ?_
 ·simp only [go_sem]
 ·simp only [go_sem]
 rintro i ⟨h1,h2⟩;simp only [go_sem];refine AXc.introP (fun h3=>?_) (fun h3=>?_)
 ·have hi:i<L.length:=by omega
  simp (disch:=first|assumption|(push_cast<;>omega)|omega) only [go_sem]
  (repeat refine sdC ?_);refine AXc.introP (fun h4=>?_) (fun h4=>?_)
  ·have hp:=zwE h2 hi h4;simp only [go_sem];rw [ixV,hp,if_pos hi]
  ·simp (disch:=first|assumption|(push_cast<;>omega)|omega) only [go_sem];refine zk (i+1) ⟨by omega,fun j hj=>?_⟩ (by omega) (Sub.of0 [] rfl rfl ?_ ?_)
   ·rcases Nat.lt_or_ge j i with hji|hji
    ·exact h2 j hji
    ·obtain rfl:j=i:=by omega
     exact h4
   ·simp only [go_sem];simp
   ·simp only [go_sem]
 ·obtain rfl:i=L.length:=by omega
  have hp:=zmH h2;simp only [go_sem];refine AXa.go mixed (zf ziB zh) (zg) (by kernel_rfl) ?_;simp only [go_sem];rw [ixV,hp,if_neg (Nat.lt_irrefl _)]
noncomputable def cIxF:List V→Option PR:=zD (fun l:List Str=>[.fs (strs l) l.length,.fn 60 []]) (fun l=>l.length≤1000000) fun l=>.ret (.int .i64 (ixV l))
theorem zpV(l:List Str)(hl:l.length≤1000000):cIxF [.fs (strs l) l.length,.fn 60 []]=some (.ret (.int .i64 (ixV l))):=
 zn (pat:=fun l:List Str=>[.fs (strs l) l.length,.fn 60 []]) (fun x y h=>by simp at h;exact zbY h.1) l hl
theorem zzT:∀ args r,cIxF args=some r→PCall Tryz.prog 91 args r:=zo zx5
attribute [go_sem] zpV
theorem clone_nil:NCall Tryz.prog 36 [.nilS] [] [] .nilS ⟨[],0⟩:=by
 refine NCall.walk (rs:=[.tmp 2]) [0,2,4] [] 0 mixed (zh) (zg) call36 Tryz.func36 rfl Tryz.ntmps36 rfl (by kernel_rfl) (by simp) (by simp) (by simp) ?_;simp only [go_sem];refine⟨[(2,.nilS)],Sub.of [] rfl ?_ ?_ (by decide) (fun b hb hw=>absurd hb (Nat.not_lt_zero b)),rfl⟩
 ·simp only [go_sem]
 ·simp only [go_sem]
set_option maxHeartbeats 4000000 in
theorem clone_sl(L R:List Str)(hL:L.length≤1000000):NCall Tryz.prog 36 [.sl 0 0 L.length 1 none] [.cells (strs (L++R))] [] (.sl 1 0 L.length 1 none) ⟨[(1,.cells (strs L)),(0,.cells (strs (L++R)))],2⟩:=by
 refine NCall.walk (rs:=[.tmp 2]) [0,2,4] [] 1 mixed (zh) (zg) call36 Tryz.func36 rfl Tryz.ntmps36 rfl (by kernel_rfl) (by simp) (by simp) (by simp) ?_;simp (disch:=first|assumption|(push_cast<;>omega)|omega) only [go_sem];have hle:L.length≤(L++R).length:=by simp
 have ht:List.take L.length (L++R)=L:=List.take_left;by_cases h0:L.length=0
 ·obtain rfl:L=[]:=List.eq_nil_of_length_eq_zero h0;simp (disch:=first|assumption|(push_cast<;>omega)|omega) only [go_sem,ht];refine⟨[(2,.sl 1 0 0 1 none)],Sub.of [] rfl ?_ ?_ (by decide) (fun b hb hw=>by obtain rfl:=Nat.lt_one_iff.1 hb;rfl),rfl⟩
  ·simp only [go_sem]
  ·simp only [go_sem]
 ·have h0':¬L.length≤0:=by omega
  simp (disch:=first|assumption|(push_cast<;>omega)|omega) only [go_sem,hle,ht,h0,h0']
  (repeat refine sdC ?_);refine⟨[(2,.sl 1 0 L.length 1 none)],Sub.of [(1,2)] rfl ?_ ?_ (by decide) (fun b hb hw=>by obtain rfl:=Nat.lt_one_iff.1 hb;rfl),rfl⟩
  ·simp only [go_sem]
  ·simp only [go_sem]
theorem zdc(a b:List Str):strs (a++b)=strs a++strs b:=by simp [strs]
theorem zv1(b n:Nat):LRel (Rn (fun i=>[b].getD i 0) (· <1)) [V.sl 0 0 n 1 none] [.sl b 0 n 1 none]:=by
 refine⟨rfl,fun i y z hy hz=>?_⟩;match i with
 |0=>cases hy;cases hz;exact .sl (π:=fun i=>[b].getD i 0) (b:=0) (Nat.lt_one_iff.2 rfl) (.inr rfl)
 |i+1=>simp at hy
theorem zlg:∀ x∈[V.nilS],Pure x:=by intro x hx;obtain rfl:=List.mem_singleton.1 hx;exact .nilS
def CloR(args:List V)(H:Hp)(r:AR):Prop:=
 (∀ b x,H.get b=some x→b<H.next)∧((args=[.nilS]∧r=⟨True,.nilS,H,[],[]⟩)∨
  ∃ b m X,args=[.sl b 0 m 1 none]∧H.get b=some (.cells (strs X))∧m≤X.length∧X.length≤1000000∧
   r=⟨True,.sl H.next 0 m 1 none,⟨(H.next,.cells (strs (X.take m)))::H.bs,H.next+1⟩,[b],[]⟩)
theorem zpG:∀ args H r,CloR args H r→HCall Tryz.prog 36 args H r:=by
 rintro args H r ⟨hk,⟨rfl,rfl⟩|⟨b,m,X,rfl,hb,hm,hX,rfl⟩⟩
 ·exact HCall.none clone_nil .nilS [] _ H rfl .nil (zu zlg) (fun i x hx=>by simp at hx) (fun i x hx=>by simp at hx) hk
 ·have hl:(X.take m).length=m:=by simp;omega
  have h:=clone_sl (X.take m) (X.drop m) (by omega);rw [List.take_append_drop,hl]at h;have hF':∀(i:Nat) (y:Blk),([Blk.cells (strs X)]:List Blk)[i]? =some y→∀ π N,RnB π N y y:=by
   intro i y hy π N;match i with
   |0=>cases hy;exact .cells (zu (zT _))
   |i+1=>simp at hy
  refine HCall.fresh (F:=[.cells (strs X)]) h (zT _) [b] _ H rfl (by simp) (zv1 b m) (fun i y hy=>?_) hF' hk;match i with
  |0=>exact⟨b,rfl,by cases hy;exact hb,hF' 0 y hy _ _⟩
  |i+1=>simp at hy
theorem znI {args:List V}{H:Hp}{r r':AR}(h:CloR args H r)(h':CloR args H r'):r'=r:=by
 obtain⟨_,⟨e,rfl⟩|⟨b,m,X,e,hb,_,_,rfl⟩⟩:=h<;>obtain⟨_,⟨e',rfl⟩|⟨b',m',X',e',hb',_,_,rfl⟩⟩:=h'
 ·rfl
 ·rw [e]at e';simp at e'
 ·rw [e]at e';simp at e'
 ·rw [e]at e';simp only [List.cons.injEq,V.sl.injEq,and_true,true_and]at e';obtain⟨rfl,rfl⟩:=e';rw [hb]at hb';have:strs X=strs X':=by simpa using hb'
  rw [zbY this]
theorem zyN(b m:Nat)(X:List Str)(bs:List (Nat×Blk))(nx:Nat)(hb:zaM bs b=some (.cells (strs X)))(hm:m≤X.length)(hX:X.length≤1000000)(hk:((keysB bs).all fun b=>decide (b<nx))=true):
 conD CloR [.sl b 0 m 1 none] ⟨bs,nx⟩=some ⟨True,.sl nx 0 m 1 none,⟨(nx,.cells (strs (X.take m)))::bs,nx+1⟩,[b],[]⟩:=by
 have hR:CloR [.sl b 0 m 1 none] ⟨bs,nx⟩ ⟨True,.sl nx 0 m 1 none,⟨(nx,.cells (strs (X.take m)))::bs,nx+1⟩,[b],[]⟩:=⟨zbs hk,.inr ⟨b,m,X,rfl,(zaP bs b).trans hb,hm,hX,rfl⟩⟩
 exact zaN hR fun r' h'=>znI hR h'
theorem zrz(bs:List (Nat×Blk))(nx:Nat)(hk:((keysB bs).all fun b=>decide (b<nx))=true):conD CloR [.nilS] ⟨bs,nx⟩=some ⟨True,.nilS,⟨bs,nx⟩,[],[]⟩:=by have hR:CloR [.nilS] ⟨bs,nx⟩ ⟨True,.nilS,⟨bs,nx⟩,[],[]⟩:=⟨zbs hk,.inl ⟨rfl,rfl⟩⟩;exact zaN hR fun r' h'=>znI hR h'
def full(L:List Str):List Str:=L.filter fun s=>decide (s≠[])
def delS(L:List Str)(j:Nat):List Str:=full (L.take j)++L.drop (full (L.take j)).length
theorem zfN(L:List Str):(full L).length≤L.length:=List.length_filter_le ..
theorem zlC:∀(L:List Str),(∀ j,j<L.length→L.getD j []≠[])→full L=L
 |[],_=>rfl
 |s::l,h=>by
  have h0:s≠[]:=by have:=h 0 (by simp);simpa using this
  have ih:=zlC l fun j hj=>by have:=h (j+1) (by simpa using hj);simpa using this
  unfold full at ih ⊢;rw [List.filter_cons_of_pos (by simpa using h0),ih]
theorem zjq(L:List Str)(j:Nat)(h:j<L.length):L.take (j+1)=L.take j++[L.getD j []]:=by rw [List.take_add_one,List.getD_eq_getElem?_getD,List.getElem?_eq_getElem h];rfl
theorem znn(l:List Str)(s:Str):full (l++[s])=if s=[]then full l else full l++[s]:=by
 unfold full;rw [List.filter_append];split
 ·rename_i h;simp [h]
 ·rename_i h;simp [h]
theorem delS_len(L:List Str)(j:Nat)(h:j≤L.length):(delS L j).length=L.length:=by have:=zfN (L.take j);unfold delS;rw [List.length_append,List.length_drop];simp at this;omega
theorem delS_get(L:List Str)(j:Nat)(h:j<L.length):(delS L j).getD j []=L.getD j []:=by have h1:=zfN (L.take j);simp at h1;unfold delS;rw [List.getD_eq_getElem?_getD,List.getElem?_append_right (by omega),List.getElem?_drop,List.getD_eq_getElem?_getD,show (full (L.take j)).length+(j - (full (L.take j)).length)=j by omega]
theorem zfU(L:List Str)(j:Nat)(h:j<L.length)(h0:L.getD j []=[]):delS L (j+1)=delS L j∧full (L.take (j+1))=full (L.take j):=by
 have e:full (L.take (j+1))=full (L.take j):=by rw [zjq L j h,znn,if_pos h0]
 refine⟨?_,e⟩;unfold delS;rw [e]
theorem set_mid:∀(a b:List Str) (x:Str),0<b.length→(a++b).set a.length x=a++[x]++b.drop 1
 |[],b,x,h=>by cases b with|nil=>simp at h|cons y b=>simp
 |y::a,b,x,h=>by have:=set_mid a b x h;simp only [List.cons_append,List.length_cons,List.set_cons_succ,this]
theorem zyD(L:List Str)(j:Nat)(h:j<L.length)(h0:L.getD j []≠[]):(delS L j).set (full (L.take j)).length (L.getD j [])=delS L (j+1)∧full (L.take (j+1))=full (L.take j)++[L.getD j []]:=by
 have e:full (L.take (j+1))=full (L.take j)++[L.getD j []]:=by rw [zjq L j h,znn,if_neg h0]
 have h1:=zfN (L.take j);simp at h1;refine⟨?_,e⟩;unfold delS;rw [e,set_mid _ _ _ (by simp;omega),List.drop_drop,List.length_append];rfl
theorem zeV(L:List Str):full (L.take (pos0 L))=L.take (pos0 L):=zlC _ fun j hj=>by
 have h1:j<pos0 L:=by simp at hj;omega
 have:=zoQ L j h1;rw [List.getD_eq_getElem?_getD,List.getElem?_take,if_pos h1, ←List.getD_eq_getElem?_getD];exact this
theorem zkQ(L:List Str)(h:pos0 L<L.length):L.getD (pos0 L) []=[]:=by
 induction L with
 |nil=>simp at h
 |cons s l ih=>
  rw [pos0]at h ⊢;split
  ·rename_i h0;simpa using h0
  ·rename_i h0;rw [if_neg h0]at h;have:=ih (by simpa using h);simpa using this
def zerS(n:Nat):List Str:=List.replicate n []
theorem zou {C:Cfg}{P:Program}{env:Env}{H:Hp}(t:TypeId)(x:Operand):step1 C P env (.call { callee:=.builtin .clear,args:=⟨[x]⟩,argTypes:=⟨[t]⟩ }) H=mkSR false (ev env x).cond (XR.ar H (zd5 P t (ev env x).val H)) H:=zal rfl (by simp [Op.operands,Call.operands,needs]) rfl
theorem putC(cs:List V)(off:Nat)(xs:List V)(h:off+xs.length≤cs.length):Go.Ab.putCells cs off xs=cs.take off++xs++cs.drop (off+xs.length):=by
 unfold Go.Ab.putCells;split
 ·rename_i x;have hl:off<cs.length:=by simp at h;omega
  rw [List.set_eq_take_append_cons_drop,if_pos hl];simp
 ·rfl
theorem zyO(X:List Str)(b off len:Nat)(bs:List (Nat×Blk))(nx:Nat)(hb:zaM bs b=some (.cells (strs X)))(h0:len≠0)(hle:off+len≤X.length):
 zd5 Tryz.prog 25 (.sl b off len 1 none) ⟨bs,nx⟩=some ⟨zar,(⟨bs,nx⟩:Hp).put b (.cells (strs (X.take off++zerS len++X.drop (off+len)))),[b],[b]⟩:=by
 have h1:zdS Tryz.prog 25=some 9:=by kernel_rfl
 have h2:zN Tryz.prog 9=some 1:=by kernel_rfl
 have h3:zaU Tryz.prog 9=some (.string ⟨([]:List UInt8).toArray⟩):=by kernel_rfl
 have hg:(⟨bs,nx⟩:Hp).get b=some (.cells (strs X)):=(zaP bs b).trans hb
 have hz:zbe Tryz.prog 9 len=strs (zerS len):=by unfold zbe;simp only [h3];simp [cv,cv1,V.cellsV,strs,zerS]
 have hbq:Nat.beq len 0=false:=by
  cases e:Nat.beq len 0 with
  |false=>rfl
  |true=>exact absurd (Nat.eq_of_beq_eq_true e) h0
 unfold zd5
 simp only [h1,h2,h3,hg,hbq,hz]
 rw [decide_eq_true (by refine⟨trivial,rfl,rfl,zrV _,?_⟩;rw [zZ];omega)]
 have hzl:(strs (zerS len)).length=len:=by simp [zerS,strs]
 simp only
 rw [putC _ _ _ (by rw [hzl,zZ];omega),hzl,zbW,znC, ←zdc, ←zdc]
theorem del_nil:NCall Tryz.prog 59 [.nilS,.fn 60 []] [] [] .nilS ⟨[],0⟩:=by
 have hx:cIxF [.fs [] 0,.fn 60 []]=some (.ret (.int .i64 (-1))):=zpV [] (by decide);refine NCall.walk (rs:=[.tmp 4]) [0,1,4,5,6,7,12,19,29] [] 0 mixed (zf ziB (zf zzT zh)) (zg) call59 Tryz.func59 rfl Tryz.ntmps59 rfl (by kernel_rfl) (by simp) (by simp) (by simp) ?_;simp only [go_sem,hx];refine⟨[(4,.nilS)],Sub.of [] rfl ?_ ?_ (by decide) (fun b hb hw=>absurd hb (Nat.not_lt_zero b)),rfl⟩
 ·simp only [go_sem]
 ·simp only [go_sem]
set_option maxHeartbeats 4000000 in
set_option maxRecDepth 100000 in
theorem del_sl(L:List Str)(hL:L.length≤1000000):NCall Tryz.prog 59 [.sl 0 0 L.length 1 none,.fn 60 []] [.cells (strs L)] [0] (.sl 0 0 (full L).length 1 none) ⟨[(0,.cells (strs (full L++zerS (L.length - (full L).length))))],1⟩:=by
 have hΓ:=zf ziB (zf zzT zh);have hx:=zpV L hL;have hp0:=zwD L;refine NCall.walkW (rs:=[.tmp 4]) [0,1,4,5,6,7,12,19,29] [] 1 [0] mixed (hΓ) (zg) call59 Tryz.func59 rfl Tryz.ntmps59 rfl (by kernel_rfl) (by simp) (by simp) (by simp) (by simp) ?_;by_cases hp:pos0 L<L.length;rotate_left
 ·have hi:ixV L= -1:=by unfold ixV;rw [if_neg hp]
  rw [hi]at hx;have hf:full L=L:=zlC L fun j hj=>zoQ L j (by omega);simp (disch:=first|assumption|(push_cast<;>omega)|omega) only [go_sem,hx,List.take_length];rw [hf,Nat.sub_self];refine⟨[(4,.sl 0 0 L.length 1 none)],Sub.of [] rfl ?_ ?_ (by decide) (fun b hb hw=>absurd (Nat.lt_one_iff.1 hb) (by simpa using hw)),rfl⟩
  ·simp only [go_sem]
  ·simp only [go_sem,zerS,List.replicate_zero,List.append_nil]
 have hi:ixV L=(pos0 L:Int):=by unfold ixV;rw [if_pos hp]
 rw [hi]at hx;have e1:decide ((pos0 L:Int)= -1)=false:=decide_eq_false (by omega);simp (disch:=first|assumption|(push_cast<;>omega)|omega) only [go_sem,hx,List.take_length,e1]
 (repeat refine sdC ?_);refine AXs.loop mixed (hΓ) (zg) (fun j:Nat=>[(0,.sl 0 0 L.length 1 none),(1,.fn 60 []),(5,.int .i64 (full (L.take j)).length),(6,.int .i64 j)]) (fun j=>⟨[(0,.cells (strs (delS L j)))],1⟩) (fun j=>j≤L.length∧pos0 L<j) (fun j=>L.length - j) (pos0 L+1) (by kernel_rfl) ⟨by omega,by omega⟩ (Sub.of [] rfl ?_ ?_ (by decide) (fun b hb hw=>absurd (Nat.lt_one_iff.1 hb) (by simpa using hw))) ?_
 ·have e2:=(zfU L (pos0 L) hp (zkQ L hp)).2;rw [zeV]at e2;simp only [go_sem,e2];simp;omega
 ·have e2:=(zfU L (pos0 L) hp (zkQ L hp)).1;have e3:delS L (pos0 L)=L:=by unfold delS;rw [zeV,List.length_take,Nat.min_eq_left hp0,List.take_append_drop]
  simp only [go_sem,e2,e3]
 rintro j ⟨h1,h2⟩;have hdl:=delS_len L j h1;have hfl:=zfN (L.take j);have hfj:(full (L.take j)).length≤j:=by simp at hfl;omega
 simp only [go_sem];refine AXc.introP (fun h3=>?_) (fun h3=>?_)
 ·have hj:j<L.length:=by omega
  have hg:=delS_get L j hj;simp (disch:=first|assumption|(push_cast<;>omega)|omega) only [go_sem,hdl,hg]
  (repeat refine sdC ?_);refine AXc.introN (fun h4=>?_) (fun h4=>?_)
  ·obtain⟨k1,k2⟩:=zyD L j hj h4;simp (disch:=first|assumption|(push_cast<;>omega)|omega) only [go_sem,hdl,set_strs,k1]
   (repeat refine sdC ?_);refine zk (j+1) ⟨by omega,by omega⟩ (by omega) (Sub.of [] rfl ?_ ?_ (by decide) (fun b hb hw=>absurd (Nat.lt_one_iff.1 hb) (by simpa using hw)))
   ·simp only [go_sem,k2];simp
   ·simp only [go_sem]
  ·obtain⟨k1,k2⟩:=zfU L j hj (by simpa using h4);simp (disch:=first|assumption|(push_cast<;>omega)|omega) only [go_sem];refine zk (j+1) ⟨by omega,by omega⟩ (by omega) (Sub.of [] rfl ?_ ?_ (by decide) (fun b hb hw=>absurd (Nat.lt_one_iff.1 hb) (by simpa using hw)))
   ·simp only [go_sem,k2];simp
   ·simp only [go_sem,k1]
 ·obtain rfl:j=L.length:=by omega
  have hdf:delS L L.length=full L++L.drop (full L).length:=by unfold delS;rw [List.take_length]
  rw [List.take_length]at hfj hfl;rw [List.take_length,hdf];rw [hdf]at hdl;simp only [go_sem];refine AXa.go mixed (hΓ) (zg) (by kernel_rfl) ?_;have hz:(full L).length<L.length:=by
   have:=(zfU L (pos0 L) hp (zkQ L hp)).2;have h9:=List.length_filter_lt_length_iff_exists (l:=L) (p:=fun s=>decide (s≠[])) |>.2 ⟨L.getD (pos0 L) [],zij hp,by rw [zkQ L hp];simp⟩
   exact h9
  have hcl:=zyO (full L++L.drop (full L).length) 0 (full L).length (L.length - (full L).length) [(0,.cells (strs (full L++L.drop (full L).length)))] 1 rfl (by omega) (by rw [hdl];omega);have hX:(full L++L.drop (full L).length).take (full L).length++zerS (L.length - (full L).length)++(full L++L.drop (full L).length).drop ((full L).length+(L.length - (full L).length))=full L++zerS (L.length - (full L).length):=by rw [List.take_left,List.drop_eq_nil_of_le (by rw [hdl];omega),List.append_nil]
  rw [hX]at hcl;simp (disch:=first|assumption|(push_cast<;>omega)|omega) only [go_sem,hdl,zou,hcl]
  (repeat refine sdC ?_);have hlen2:(full L++zerS (L.length - (full L).length)).length=L.length:=by simp [zerS];omega
  refine⟨[(4,.sl 0 0 (full L).length 1 none)],Sub.of [] rfl ?_ ?_ (by decide) (fun b hb hw=>absurd (Nat.lt_one_iff.1 hb) (by simpa using hw)),rfl⟩
  ·simp only [go_sem]
  ·simp only [go_sem]
def RowF(ex:List V)(c:List Str→Nat→Prop)(g:List Str→Nat→List Str)(v:List Str→Nat→Nat→V)(args:List V)(H:Hp)(r:AR):Prop:=
 ∃ b X m,args=.sl b 0 m 1 none::ex∧H.get b=some (.cells (strs X))∧c X m∧(∀ b x,H.get b=some x→b<H.next)∧r=⟨True,v X m b,H.put b (.cells (strs (g X m))),[b],[b]⟩
theorem zoB {ex:List V}{c:List Str→Nat→Prop}{g:List Str→Nat→List Str}{v:List Str→Nat→Nat→V}(b m:Nat)(X:List Str)(bs:List (Nat×Blk))(nx:Nat)(hb:zaM bs b=some (.cells (strs X)))(hc:c X m)(hk:((keysB bs).all fun b=>decide (b<nx))=true):
 conD (RowF ex c g v) (.sl b 0 m 1 none::ex) ⟨bs,nx⟩=some ⟨True,v X m b,(⟨bs,nx⟩:Hp).put b (.cells (strs (g X m))),[b],[b]⟩:=by
 have hR:RowF ex c g v (.sl b 0 m 1 none::ex) ⟨bs,nx⟩ ⟨True,v X m b,(⟨bs,nx⟩:Hp).put b (.cells (strs (g X m))),[b],[b]⟩:=⟨b,X,m,rfl,(zaP bs b).trans hb,hc,zbs hk,rfl⟩
 refine zaN hR ?_
 rintro r' ⟨b',X',m',e,hb',_,_,rfl⟩
 simp only [List.cons.injEq,V.sl.injEq,and_true,true_and]at e
 obtain⟨rfl,rfl⟩:=e
 rw [show (⟨bs,nx⟩:Hp).get b=some (.cells (strs X))from(zaP bs b).trans hb]at hb'
 have:strs X=strs X':=by simpa using hb'
 rw [zbY this]
def DelR:=RowF [.fn 60 []] (fun X m=>m=X.length∧X.length≤1000000) (fun X _=>full X++zerS (X.length - (full X).length)) fun X _ b=>.sl b 0 (full X).length 1 none
theorem delR_ok:∀ args H r,DelR args H r→HCall Tryz.prog 59 args H r:=by
 rintro args H r ⟨b,X,m,rfl,hb,⟨rfl,hX⟩,hk,rfl⟩;refine HCall.put1 (del_sl X hX) (zT _) (zT _) b _ H ⟨rfl,fun i y z hy hz=>?_⟩ hb hk;match i with
 |0=>cases hy;cases hz;exact .sl (π:=fun i=>[b].getD i 0) (b:=0) (Nat.lt_one_iff.2 rfl) (.inr rfl)
 |1=>cases hy;cases hz;exact .same (.fn fun x h=>by cases h)
 |i+2=>simp at hy
def srtS(l:List Str):List Str:=l.mergeSort fun x y=>decide (x≤y)
theorem zqG(l:List Str):(srtS l).length=l.length:=List.length_mergeSort ..
def SrtR:=RowF [] (fun X m=>m≤X.length∧X.length≤1000000) (fun X m=>srtS (X.take m)++X.drop m) fun _ _ _=>.tup []
theorem srtR_ok:∀ args H r,SrtR args H r→HCall Tryz.prog 61 args H r:=by
 rintro args H r ⟨b,X,m,rfl,hb,⟨hm,hX⟩,hk,rfl⟩;have hl:(X.take m).length=m:=by simp;omega
 have hb':H.get b=some (.cells (strs (X.take m)++strs (X.drop m))):=by rw [←zdc,List.take_append_drop];exact hb
 have h:=zjv (P:=Tryz.prog) (f:=61) call61 (d:=X.take m) (d':=srtS (X.take m)) (rest:=strs (X.drop m)) (zqG _) none (fun m h=>by cases h)
  (fun blk off cap w hH hblk hcap=>(calls_of_every_depth fun D=>AnyS.slices_Sort_string_in laysS190 D blk off cap (X.take m) w hH hblk (by omega))) hb'
 rw [hl, ←zdc]at h;exact h
def zgW(X:List Str)(m:Nat):List Str:=compact (X.take m)
theorem ziw(zs:List Str):(compact zs).length≤zs.length:=by unfold compact compactUpTo;rw [List.length_map];refine Nat.le_trans (List.length_filter_le ..) ?_;simp
def CmpR:=RowF [] (fun X m=>m≤X.length∧X.length≤1000000) (fun X m=>(zgW X m++zerS (m - (zgW X m).length))++X.drop m) fun X m b=>.sl b 0 (zgW X m).length 1 none
theorem zyb(w:World):grow w #[]=w:=by simp [grow]
theorem cmpR_ok:∀ args H r,CmpR args H r→HCall Tryz.prog 62 args H r:=by
 rintro args H r ⟨b,X,m,rfl,hb,⟨hm,hX⟩,hk,rfl⟩;have hl:(X.take m).length=m:=by simp;omega
 have hcl:=ziw (X.take m);rw [hl]at hcl;have hb':H.get b=some (.cells (strs (X.take m)++strs (X.drop m))):=by rw [←zdc,List.take_append_drop];exact hb
 have h:=zjv (P:=Tryz.prog) (f:=62) call62 (d:=X.take m) (d':=zgW X m++zerS (m - (zgW X m).length)) (rest:=strs (X.drop m)) (by rw [hl];simp [zerS,zgW];omega) (some (zgW X m).length) (fun m' h=>by cases h;rw [hl];exact hcl)
  (fun blk off cap w hH hblk hcap=>(Any.slices_Compact_string laysS194 blk off cap (X.take m) w hH (by omega) hcap).mono fun e w' h=>by obtain⟨rfl,q,rfl⟩:=h;rw [hl];exact⟨rfl,q,#[],(zyb _).symm⟩) hb'
 rw [hl, ←zdc]at h;exact h
theorem lt_bl:∀ a b:Str,a<b↔Op.bytesLess a b=true
 |[],[]=>by simp [Op.bytesLess]
 |[],y::b=>by simp [Op.bytesLess]
 |x::a,[]=>by simp [Op.bytesLess]
 |x::a,y::b=>by rw [List.cons_lt_cons_iff,zlW,lt_bl a b]
theorem le_bl(a b:Str):a≤b↔Op.bytesLess b a=false:=by show ¬b<a↔_;rw [lt_bl];simp
theorem zox(l:List Str):(srtS l).Pairwise fun a b=>Op.bytesLess b a=false:=by
 have h:=List.pairwise_mergeSort (le:=fun x y:Str=>decide (x≤y)) (fun a b c h1 h2=>by
  rw [decide_eq_true_eq,le_bl]at*;cases e:Op.bytesLess c a with
  |false=>rfl
  |true=>
   rcases zj8 a b with k|k|k
   ·rw [zc4 e k]at h2;cases h2
   ·subst k;rw [e]at h2;cases h2
   ·rw [k]at h1;cases h1) (fun a b=>by
  simp only [Bool.or_eq_true,decide_eq_true_eq,le_bl];cases e:Op.bytesLess b a with
  |false=>exact .inl rfl
  |true=>exact .inr (zrO e)) l
 exact h.imp fun h=>(le_bl _ _).1 (by simpa using h)
theorem srtS_mem {l:List Str}{y:Str}:y∈srtS l↔y∈l:=(List.mergeSort_perm l _).mem_iff
theorem full_mem {l:List Str}{y:Str}:y∈full l↔y∈l∧y≠[]:=by simp [full]
theorem zpF {zs:List Str}(h:zs.Pairwise fun a b=>Op.bytesLess b a=false):IncS (compact zs)∧∀ y,y∈compact zs↔y∈zs:=by
 have hd:∀ j,j<zs.length→zs.toArray[j]! =zs.getD j []:=fun j hj=>by rw [getElem!_pos zs.toArray j (by simpa using hj)];simp [hj]
 have hs:∀ i j,i<j→j<zs.length→Op.bytesLess (zs.getD j []) (zs.getD i [])=false:=fun i j hij hj=>by have:=List.pairwise_iff_getElem.1 h i j (by omega) hj hij;rw [List.getD_eq_getElem?_getD,List.getD_eq_getElem?_getD,List.getElem?_eq_getElem hj,List.getElem?_eq_getElem (by omega)];exact this
 have key:∀ m,m≤zs.length→IncS (compactUpTo zs.toArray m)∧∀ y,y∈compactUpTo zs.toArray m↔∃ j,j<m∧zs.getD j []=y:=by
  intro m;induction m with
  |zero=>intro _;exact⟨List.Pairwise.nil,fun y=>by simp [compactUpTo]⟩
  |succ m ih=>
   intro hm;obtain⟨i1,i2⟩:=ih (by omega);rw [compactUpTo_succ];by_cases hk:keeps zs.toArray m=true
   ·rw [if_pos hk,hd m (by omega)];have hne:m=0∨zs.getD m []≠zs.getD (m - 1) []:=by
     have:=of_decide_eq_true hk;rw [hd m (by omega)]at this;rcases this with h0|h0
     ·exact .inl h0
     ·by_cases hm0:m=0
      ·exact .inl hm0
      ·rw [hd (m - 1) (by omega)]at h0;exact .inr h0
    refine⟨List.pairwise_append.2 ⟨i1,by simp,fun a ha b hb=>?_⟩,fun y=>?_⟩
    ·obtain⟨j,hj,rfl⟩:=(i2 a).1 ha;obtain rfl:=List.mem_singleton.1 hb;rcases hne with h0|h0
     ·omega
     have h1:Op.bytesLess (zs.getD (m - 1) []) (zs.getD m [])=true:=by
      rcases zj8 (zs.getD (m - 1) []) (zs.getD m [])with k|k|k
      ·exact k
      ·exact absurd k.symm h0
      ·rw [hs (m - 1) m (by omega) (by omega)]at k;cases k
     by_cases hj1:j=m - 1
     ·subst hj1;exact h1
     ·have h2:=hs j (m - 1) (by omega) (by omega);rcases zj8 (zs.getD j []) (zs.getD (m - 1) [])with k|k|k
      ·exact zc4 k h1
      ·rw [k];exact h1
      ·rw [h2]at k;cases k
    ·rw [List.mem_append,i2 y,List.mem_singleton];constructor
     ·rintro(⟨j,hj,e⟩|rfl)
      ·exact⟨j,by omega,e⟩
      ·exact⟨m,by omega,rfl⟩
     ·rintro⟨j,hj,e⟩;by_cases hjm:j=m
      ·subst hjm;exact .inr e.symm
      ·exact .inl ⟨j,by omega,e⟩
   ·rw [if_neg hk,List.append_nil];refine⟨i1,fun y=>?_⟩;have hk':¬(m=0∨zs.toArray[m]! ≠zs.toArray[m - 1]!):=fun h=>hk (decide_eq_true h);rw [i2 y];constructor
    ·rintro⟨j,hj,e⟩;exact⟨j,by omega,e⟩
    ·rintro⟨j,hj,e⟩;by_cases hjm:j=m
     ·subst hjm;refine⟨j - 1,by omega,?_⟩;have:zs.toArray[j]! =zs.toArray[j - 1]! :=Classical.not_not.1 fun h=>hk' (.inr h);rw [hd j (by omega),hd (j - 1) (by omega)]at this;rw [←this,e]
     ·exact⟨j,by omega,e⟩
 obtain⟨k1,k2⟩:=key zs.length (Nat.le_refl _);refine⟨k1,fun y=>?_⟩;show y∈compactUpTo zs.toArray zs.length↔_;rw [k2 y];constructor
 ·rintro⟨j,hj,rfl⟩;exact zij hj
 ·intro hy;obtain⟨j,hj,rfl⟩:=List.mem_iff_getElem.1 hy;exact⟨j,hj,by rw [List.getD_eq_getElem?_getD,List.getElem?_eq_getElem hj];rfl⟩
theorem zmS(L:List Str):compact (srtS (full L))=nmS L:=by obtain⟨h1,h2⟩:=zpF (zox (full L));refine IncS.ext h1 (zh2 L) fun y=>?_;rw [h2,srtS_mem,full_mem,mem_nmS]
noncomputable def Δn:FuncId→List V→Hp→Option AR:=zct 36 (conD CloR) (zct 59 (conD DelR) (zct 61 (conD SrtR) (zct 62 (conD CmpR) noΔ)))
theorem Δn_ok:zbo Tryz.prog Δn:=zaw (zaQ zpG) (zaw (zaQ delR_ok) (zaw (zaQ srtR_ok) (zaw (zaQ cmpR_ok) zg)))
theorem zer_add(a b:Nat):zerS a++zerS b=zerS (a+b):=by simp [zerS,List.replicate_append_replicate]
set_option maxHeartbeats 4000000 in
set_option maxRecDepth 100000 in
theorem names_sl(L:List Str)(hL:L.length≤1000000):NCall Tryz.prog 34 [.sl 0 0 L.length 1 none] [.cells (strs L)] [] (.sl 1 0 (nmS L).length 1 none) ⟨[(1,.cells (strs (nmS L++zerS (L.length - (nmS L).length)))),(0,.cells (strs L))],2⟩:=by
 have hfl:=zfN L;have h1:Δn 36 [.sl 0 0 L.length 1 none] ⟨[(0,.cells (strs L))],1⟩=some ⟨True,.sl 1 0 L.length 1 none,⟨[(1,.cells (strs L)),(0,.cells (strs L))],2⟩,[0],[]⟩:=by have:=zyN 0 L.length L [(0,.cells (strs L))] 1 rfl (Nat.le_refl _) hL rfl;rw [List.take_length]at this;exact this
 have h2:Δn 59 [.sl 1 0 L.length 1 none,.fn 60 []] ⟨[(1,.cells (strs L)),(0,.cells (strs L))],2⟩=some ⟨True,.sl 1 0 (full L).length 1 none,(⟨[(1,.cells (strs L)),(0,.cells (strs L))],2⟩:Hp).put 1 (.cells (strs (full L++zerS (L.length - (full L).length)))),[1],[1]⟩:=
  zoB (ex:=[.fn 60 []]) 1 L.length L [(1,.cells (strs L)),(0,.cells (strs L))] 2 rfl ⟨rfl,hL⟩ rfl
 obtain⟨Z,hZ⟩:∃ Z,Z=zerS (L.length - (full L).length):=⟨_,rfl⟩;rw [←hZ]at h2;have hX:(full L++Z).length=L.length:=by rw [hZ];simp [zerS];omega
 have h3:Δn 61 [.sl 1 0 (full L).length 1 none] ⟨[(1,.cells (strs (full L++Z))),(0,.cells (strs L))],2⟩=some ⟨True,.tup [],(⟨[(1,.cells (strs (full L++Z))),(0,.cells (strs L))],2⟩:Hp).put 1 (.cells (strs (srtS (full L)++Z))),[1],[1]⟩:=by have:=zoB (ex:=[]) (c:=fun X m=>m≤X.length∧X.length≤1000000) (g:=fun X m=>srtS (X.take m)++X.drop m) (v:=fun _ _ _=>.tup []) 1 (full L).length (full L++Z) [(1,.cells (strs (full L++Z))),(0,.cells (strs L))] 2 rfl ⟨by rw [hX];exact hfl,by rw [hX];exact hL⟩ rfl;rw [List.take_left,List.drop_left]at this;exact this
 have hsl:=zqG (full L);have hX2:(srtS (full L)++Z).length=L.length:=by rw [List.length_append,hsl, ←List.length_append];exact hX
 have h4:Δn 62 [.sl 1 0 (full L).length 1 none] ⟨[(1,.cells (strs (srtS (full L)++Z))),(0,.cells (strs L))],2⟩=some ⟨True,.sl 1 0 (nmS L).length 1 none,(⟨[(1,.cells (strs (srtS (full L)++Z))),(0,.cells (strs L))],2⟩:Hp).put 1 (.cells (strs (nmS L++zerS (L.length - (nmS L).length)))),[1],[1]⟩:=by
  have:=zoB (ex:=[]) (c:=fun X m=>m≤X.length∧X.length≤1000000) (g:=fun X m=>(zgW X m++zerS (m - (zgW X m).length))++X.drop m) (v:=fun X m b=>.sl b 0 (zgW X m).length 1 none) 1 (full L).length (srtS (full L)++Z) [(1,.cells (strs (srtS (full L)++Z))),(0,.cells (strs L))] 2 rfl ⟨by rw [hX2];exact hfl,by rw [hX2];exact hL⟩ rfl;have hc:zgW (srtS (full L)++Z) (full L).length=nmS L:=by unfold zgW;rw [←hsl,List.take_left,zmS]
  have hd:(srtS (full L)++Z).drop (full L).length=Z:=by rw [←hsl,List.drop_left]
  have hnl:(nmS L).length≤(full L).length:=by rw [←zmS];exact Nat.le_trans (ziw _) (Nat.le_of_eq hsl)
  simp only [hc,hd]at this;rw [List.append_assoc,hZ,zer_add,show (full L).length - (nmS L).length+(L.length - (full L).length)=L.length - (nmS L).length by omega]at this;rw [hZ];exact this
 refine NCall.walk (rs:=[.tmp 2]) [0,2] [] 1 mixed (zh) (Δn_ok) call34 Tryz.func34 rfl Tryz.ntmps34 rfl (by kernel_rfl) (by simp) (by simp) (by simp) ?_;simp (disch:=first|assumption|(push_cast<;>omega)|omega) only [go_sem,h1,h2,h3,h4];refine⟨[(2,.sl 1 0 (nmS L).length 1 none)],Sub.of [] rfl ?_ ?_ (by decide) (fun b hb hw=>by obtain rfl:=Nat.lt_one_iff.1 hb;rfl),rfl⟩
 ·simp only [go_sem]
 ·simp only [go_sem]
def NilF(ex:List V)(args:List V)(H:Hp)(r:AR):Prop:=args=.nilS::ex∧(∀ b x,H.get b=some x→b<H.next)∧r=⟨True,.nilS,H,[],[]⟩
theorem zw6(ex:List V)(bs:List (Nat×Blk))(nx:Nat)(hk:((keysB bs).all fun b=>decide (b<nx))=true):conD (NilF ex) (.nilS::ex) ⟨bs,nx⟩=some ⟨True,.nilS,⟨bs,nx⟩,[],[]⟩:=
 zaN ⟨rfl,zbs hk,rfl⟩ fun r' h'=>h'.2.2
theorem zw7:∀ args H r,NilF [.fn 60 []] args H r→HCall Tryz.prog 59 args H r:=by
 rintro args H r ⟨rfl,hk,rfl⟩;exact HCall.none del_nil .nilS [] _ H rfl .nil (zu fun x hx=>by
  simp only [List.mem_cons,List.not_mem_nil,or_false]at hx;rcases hx with rfl|rfl
  ·exact .nilS
  ·exact .fn fun x h=>by cases h) (fun i x hx=>by simp at hx) (fun i x hx=>by simp at hx) hk
theorem cmp_nil:NCall Tryz.prog 62 [.nilS] [] [] .nilS ⟨[],0⟩:=by
 refine NCall.walk (rs:=[.tmp 2]) [0,2,3,4,5,8,13,25,32,44] [] 0 mixed (zh) (zg) call62 Tryz.func62 rfl Tryz.ntmps62 rfl (by kernel_rfl) (by simp) (by simp) (by simp) ?_;simp only [go_sem];refine⟨[(2,.nilS)],Sub.of [] rfl ?_ ?_ (by decide) (fun b hb hw=>absurd hb (Nat.not_lt_zero b)),rfl⟩
 ·simp only [go_sem]
 ·simp only [go_sem]
theorem zw8:∀ args H r,NilF [] args H r→HCall Tryz.prog 62 args H r:=by rintro args H r ⟨rfl,hk,rfl⟩;exact HCall.none cmp_nil .nilS [] _ H rfl .nil (zu zlg) (fun i x hx=>by simp at hx) (fun i x hx=>by simp at hx) hk
noncomputable def cSrt0:List V→Option PR:=zD (fun _:Unit=>[.fs [] 0]) (fun _=>True) fun _=>.ret (.tup [])
theorem cSrt0_eq:cSrt0 [.fs [] 0]=some (.ret (.tup [])):=zn (pat:=fun _:Unit=>[.fs [] 0]) (fun _ _ _=>rfl) () trivial
theorem cSrt0_ok:∀ args r,cSrt0 args=some r→PCall Tryz.prog 61 args r:=zo fun _ _=>E1_ok (n:=60) (fun x h=>by obtain rfl:=List.mem_singleton.1 h;exact .fs fun _ h=>by cases h) (by kernel_rfl)
noncomputable def Δz:FuncId→List V→Hp→Option AR:=zct 36 (conD CloR) (zct 59 (conD (NilF [.fn 60 []])) (zct 62 (conD (NilF [])) noΔ))
theorem Δz_ok:zbo Tryz.prog Δz:=zaw (zaQ zpG) (zaw (zaQ zw7) (zaw (zaQ zw8) zg))
theorem zxg:NCall Tryz.prog 34 [.nilS] [] [] .nilS ⟨[],0⟩:=by
 have h1:Δz 36 [.nilS] ⟨[],0⟩=some ⟨True,.nilS,⟨[],0⟩,[],[]⟩:=zrz [] 0 rfl;have h2:Δz 59 [.nilS,.fn 60 []] ⟨[],0⟩=some ⟨True,.nilS,⟨[],0⟩,[],[]⟩:=zw6 _ [] 0 rfl;have h4:Δz 62 [.nilS] ⟨[],0⟩=some ⟨True,.nilS,⟨[],0⟩,[],[]⟩:=zw6 _ [] 0 rfl;refine NCall.walk (rs:=[.tmp 2]) [0,2] [] 0 mixed (zf cSrt0_ok zh) (Δz_ok) call34 Tryz.func34 rfl Tryz.ntmps34 rfl (by kernel_rfl) (by simp) (by simp) (by simp) ?_;simp only [go_sem,h1,h2,h4,cSrt0_eq];refine⟨[(2,.nilS)],Sub.of [] rfl ?_ ?_ (by decide) (fun b hb hw=>absurd hb (Nat.not_lt_zero b)),rfl⟩
 ·simp only [go_sem]
 ·simp only [go_sem]
def NamR(args:List V)(H:Hp)(r:AR):Prop:=
 (∀ b x,H.get b=some x→b<H.next)∧((args=[.nilS]∧r=⟨True,.nilS,H,[],[]⟩)∨
  ∃ b X,args=[.sl b 0 X.length 1 none]∧H.get b=some (.cells (strs X))∧X.length≤1000000∧
   r=⟨True,.sl H.next 0 (nmS X).length 1 none,⟨(H.next,.cells (strs (nmS X++zerS (X.length - (nmS X).length))))::H.bs,H.next+1⟩,[b],[]⟩)
theorem namR_ok:∀ args H r,NamR args H r→HCall Tryz.prog 34 args H r:=by
 rintro args H r ⟨hk,⟨rfl,rfl⟩|⟨b,X,rfl,hb,hX,rfl⟩⟩
 ·exact HCall.none zxg .nilS [] _ H rfl .nil (zu zlg) (fun i x hx=>by simp at hx) (fun i x hx=>by simp at hx) hk
 ·have hF':∀(i:Nat) (y:Blk),([Blk.cells (strs X)]:List Blk)[i]? =some y→∀ π N,RnB π N y y:=by
   intro i y hy π N
   match i with
   |0=>cases hy;exact .cells (zu (zT _))
   |i+1=>simp at hy
  refine HCall.fresh (F:=[.cells (strs X)]) (names_sl X hX) (zT _) [b] _ H rfl (by simp) (zv1 b X.length) (fun i y hy=>?_) hF' hk
  match i with
  |0=>exact⟨b,rfl,by cases hy;exact hb,hF' 0 y hy _ _⟩
  |i+1=>simp at hy
theorem zmU {args:List V}{H:Hp}{r r':AR}(h:NamR args H r)(h':NamR args H r'):r'=r:=by
 obtain⟨_,⟨e,rfl⟩|⟨b,X,e,hb,_,rfl⟩⟩:=h<;>obtain⟨_,⟨e',rfl⟩|⟨b',X',e',hb',_,rfl⟩⟩:=h'
 ·rfl
 ·rw [e]at e';simp at e'
 ·rw [e]at e';simp at e'
 ·rw [e]at e';simp only [List.cons.injEq,V.sl.injEq,and_true,true_and]at e';obtain⟨rfl,_⟩:=e';rw [hb]at hb';have:strs X=strs X':=by simpa using hb'
  rw [zbY this]
theorem zo5(b n:Nat)(X:List Str)(bs:List (Nat×Blk))(nx:Nat)(hb:zaM bs b=some (.cells (strs X)))(hn:n=X.length)(hX:X.length≤1000000)(hk:((keysB bs).all fun b=>decide (b<nx))=true):
 conD NamR [.sl b 0 n 1 none] ⟨bs,nx⟩=some ⟨True,.sl nx 0 (nmS X).length 1 none,⟨(nx,.cells (strs (nmS X++zerS (X.length - (nmS X).length))))::bs,nx+1⟩,[b],[]⟩:=by
 subst hn
 have hR:NamR [.sl b 0 X.length 1 none] ⟨bs,nx⟩ ⟨True,.sl nx 0 (nmS X).length 1 none,⟨(nx,.cells (strs (nmS X++zerS (X.length - (nmS X).length))))::bs,nx+1⟩,[b],[]⟩:=⟨zbs hk,.inr ⟨b,X,rfl,(zaP bs b).trans hb,hX,rfl⟩⟩
 exact zaN hR fun r' h'=>zmU hR h'
theorem zlh(bs:List (Nat×Blk))(nx:Nat)(hk:((keysB bs).all fun b=>decide (b<nx))=true):conD NamR [.nilS] ⟨bs,nx⟩=some ⟨True,.nilS,⟨bs,nx⟩,[],[]⟩:=by have hR:NamR [.nilS] ⟨bs,nx⟩ ⟨True,.nilS,⟨bs,nx⟩,[],[]⟩:=⟨zbs hk,.inl ⟨rfl,rfl⟩⟩;exact zaN hR fun r' h'=>zmU hR h'
end Go.Proofs
