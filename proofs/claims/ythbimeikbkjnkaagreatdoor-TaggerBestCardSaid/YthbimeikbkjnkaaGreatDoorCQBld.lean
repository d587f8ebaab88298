/- strings.Builder: the calls that nat.text makes. -/
import Derived.Test.YthbimeikbkjnkaaGreatDoorCQNat4
import Derived.Laws.Externs
import Derived.Lib.Builder
set_option linter.all false
set_option maxHeartbeats 16000000
set_option maxRecDepth 100000
namespace Go.Proofs
open Tryz Go.Ab Go.Pl
theorem zsQ(x:V)(H:Hp):HCall prog 247 [x] H ⟨True,x,H,[],[]⟩:=by
 refine⟨fun _=>Stat.refl H,fun _ g base D w vs hgl hI hvs hpw hD=>?_⟩;obtain⟨v,hv,rv⟩:=hpw 0 _ rfl;have hvs':vs=#[v]:=by
  apply Array.ext_getElem?;intro i;match i with
  |0=>exact hv
  |i+1=>rw [Array.getElem?_eq_none (by simp at hvs;omega),Array.getElem?_eq_none (by simp)]
 subst hvs';refine .inr ⟨v,w,?_,g,v,rfl,rv,Post.refl hI rfl rfl (.refl _) rfl⟩;rw [run_callFunc_extern (fn:=Tryz.f247) func247 (by kernel_rfl) rfl rfl (e:=Go.Extern.AbiNoEscape.same) (by kernel_rfl),Lib.run_noEscape];rfl
def zA8(args:List V)(H:Hp)(r:AR):Prop:=∃ x,args=[x]∧r=⟨True,x,H,[],[]⟩
theorem zwX:∀ args H r,zA8 args H r→HCall prog 247 args H r:=by rintro args H r ⟨x,rfl,rfl⟩;exact zsQ x H
noncomputable def ΔN:FuncId→List V→Hp→Option AR:=zbJ 247 (conD zA8) noΔ
theorem ΔN_ok:zaT prog ΔN:=zV (zaq zwX) zg
@[go_sem] theorem ΔN_eq(x:V)(H:Hp):ΔN 247 [x] H=some ⟨True,x,H,[],[]⟩:=zaD (R:=zA8) ⟨x,rfl,rfl⟩ fun r' ⟨x',e1,e2⟩=>by simp at e1;rw [e2,e1]
theorem ptr_e1(H:Hp):aBin prog .eql 222 .nilP .nilP H=⟨True,.bool true,H,[],[]⟩:=by kernel_rfl
theorem ptr_e2(H:Hp):aBin prog .eql 222 (.ptr 0 0) .nilP H=⟨True,.bool false,H,[],[]⟩:=by kernel_rfl
theorem ptr_e3(H:Hp):aBin prog .neq 222 (.ptr 0 0) (.ptr 0 0) H=⟨True,.bool false,H,[],[]⟩:=by kernel_rfl
theorem ptr_c1(a b:V):zdb prog 222 255 (.ptr 0 0) ⟨[(0,.ty 224 [a,b])],1⟩=⟨True,.ptr 0 0,⟨[(0,.ty 224 [a,b])],1⟩,[0],[]⟩:=by kernel_rfl
theorem ptr_c2(a b:V):zdb prog 255 222 (.ptr 0 0) ⟨[(0,.ty 224 [a,b])],1⟩=⟨True,.ptr 0 0,⟨[(0,.ty 224 [a,b])],1⟩,[0],[]⟩:=by kernel_rfl
theorem zlY {π:Nat→Nat}{N:Nat→Prop}(t:TypeId)(cs cs':List V):RnB π N (.ty t cs) (.ty t cs')↔LRel (Rn π N) cs cs':=⟨fun h=>by cases h;assumption,.ty⟩
attribute [local go_sem] zlY
theorem zbB(l:List UInt8):∀ x∈l.map zbv,Pure x:=fun x h=>by obtain⟨c,_,rfl⟩:=List.mem_map.1 h;exact .int _ _
theorem zt5:NCall prog 230 [.ptr 0 0] [.ty 224 [.nilP,.nilS]] [0] (.tup []) ⟨[(0,.ty 224 [.ptr 0 0,.nilS])],1⟩:=by refine NCall.walkW (rs:=[]) [0,6,19] [] 1 [0] mixed (zh) (ΔN_ok) zy2 func230 rfl ntmps230 rfl (by kernel_rfl) (by simp) (by simp) (by simp) (by simp) ?_;simp only [go_sem,ptr_e1,ptr_e2,ptr_e3,ptr_c1,ptr_c2];exact⟨rfl,[],Sub.of [] rfl (by simp only [go_sem]) (by simp only [go_sem]) (by decide) (fun b hb hw=>absurd (Nat.lt_one_iff.1 hb) (by simpa using hw))⟩
theorem zt4(n:Nat)(l:List UInt8):NCall prog 230 [.ptr 0 0] [.ty 224 [.ptr 0 0,.sl 1 0 n 1 none],.ty 5 (l.map zbv)] [] (.tup []) ⟨[(0,.ty 224 [.ptr 0 0,.sl 1 0 n 1 none]),(1,.ty 5 (l.map zbv))],2⟩:=by
 refine NCall.walkW (rs:=[]) [0,6,19] [] 2 [] mixed (zh) (ΔN_ok) zy2 func230 rfl ntmps230 rfl (by kernel_rfl) (by simp) (by simp) (by simp) (by simp) ?_;simp only [go_sem,ptr_e1,ptr_e2,ptr_e3];refine⟨[],Sub.of [] rfl (by simp only [go_sem]) ?_ (by decide) (fun b hb hw=>?_)⟩
 ·simp only [go_sem];exact zA (zbB l)
 ·match b,hb with
  |0,_=>rfl
  |1,_=>rfl
def bl0:Blk:=.ty 224 [.nilP,.nilS]
def bl1(b c n:Nat):Blk:=.ty 224 [.ptr b 0,.sl c 0 n 1 none]
def bly(l:List UInt8):Blk:=.ty 5 (l.map zbv)
theorem zfu {π:Nat→Nat}{N:Nat→Prop}{b c n:Nat}(hb:N b)(hc:N c):RnB π N (bl1 b c n) (bl1 (π b) (π c) n):=by
 refine .ty ⟨rfl,fun i x y hx hy=>?_⟩;match i with
 |0=>cases hx;cases hy;exact .ptr hb
 |1=>cases hx;cases hy;exact .sl hc (.inl rfl)
 |i+2=>simp at hx
theorem zge {π:Nat→Nat}{N:Nat→Prop}(l:List UInt8):RnB π N (bly l) (bly l):=.ty (zA (zbB l))
theorem zbl {π:Nat→Nat}{N:Nat→Prop}{b c:Nat}{r:List V}(hb:N b)(hc:π b=c)(hr:∀ x∈r,Pure x):LRel (Rn π N) (.ptr b 0::r) (.ptr c 0::r):=by
 subst hc;refine⟨rfl,fun i x y hx hy=>?_⟩;match i with
 |0=>cases hx;cases hy;exact .ptr hb
 |i+1=>simp only [List.getElem?_cons_succ]at hx hy;rw [hx]at hy;cases hy;exact .same (hr _ (List.mem_of_getElem? hx))
theorem idx1 {b c:Nat}(h:b≠c):List.idxOf c [b,c]=1:=by
 have h1:(b==c)=false:=by simpa using h
 rw [List.idxOf_cons,h1];simp
def CcR(args:List V)(H:Hp)(r:AR):Prop:=∃ b,args=[.ptr b 0]∧(∀ b x,H.get b=some x→b<H.next)∧
 ((H.get b=some bl0∧r=⟨True,.tup [],H.put b (.ty 224 [.ptr b 0,.nilS]),[b],[b]⟩)∨
  ∃ c n l,b≠c∧H.get b=some (bl1 b c n)∧H.get c=some (bly l)∧r=⟨True,.tup [],H,[b,c],[]⟩)
theorem ccR_ok:∀ args H r,CcR args H r→HCall prog 230 args H r:=by
 rintro args H r ⟨b,rfl,hk,h⟩;rcases h with⟨hb,rfl⟩|⟨c,n,l,hne,hb,hc,rfl⟩
 ·have tc:zK [b] H.next b=0:=by unfold zK;rw [if_pos (hk b _ hb)];simp
  refine HCall.of zt5 [b] _ (.tup []) H (H.put b (.ty 224 [.ptr b 0,.nilS])) rfl (by simp) (zbl (by decide) rfl (by simp)) (fun i x hx=>?_) (.same (.tup (by simp))) rfl (fun b' x' hx'=>?_) (fun b' hb' hw=>?_)
  ·match i with
   |0=>cases hx;exact⟨b,_,rfl,hb,.ty (zA (by simp [zhp,zdR]))⟩
   |i+1=>simp at hx
  ·rw [Hp.get_put]at hx';split at hx'
   ·rename_i he;subst he;rw [hb]at hx';cases hx';refine .inr ⟨.inl (by simp),.ty 224 [.ptr 0 0,.nilS],?_,.ty ?_⟩
    ·rw [tc];rfl
    ·exact zbl (.inl (by simp)) tc (by simp [zdR])
   ·rename_i he;exact .inl ⟨hk b' _ hx',by simpa using he,hx'⟩
  ·rw [Hp.get_put,if_neg (by simpa using hw)]
 ·have tb:zK [b,c] H.next b=0:=by unfold zK;rw [if_pos (hk b _ hb)];simp
  have tc:zK [b,c] H.next c=1:=by unfold zK;rw [if_pos (hk c _ hc)];exact idx1 hne
  refine HCall.of (zt4 n l) [b,c] _ (.tup []) H H rfl (by simpa using hne) (zbl (Nat.zero_lt_succ _) rfl (by simp)) (fun i x hx=>?_) (.same (.tup (by simp))) rfl (fun b' x' hx'=>?_) (fun b' hb' hw=>rfl)
  ·match i with
   |0=>cases hx;exact⟨b,_,rfl,hb,zfu (π:=fun i=>[b,c].getD i 0) (b:=0) (c:=1) (Nat.zero_lt_succ _) (Nat.lt_succ_self _)⟩
   |1=>cases hx;exact⟨c,_,rfl,hc,zge l⟩
   |i+2=>simp at hx
  ·by_cases h1:b'=b
   ·subst h1;rw [hb]at hx';cases hx';refine .inr ⟨.inl (by simp),bl1 0 1 n,?_,?_⟩
    ·rw [tb];rfl
    ·have:=zfu (π:=zK [b',c] H.next) (N:=fun b=>b∈[b',c]∨(H.next≤b∧b<H.next)) (b:=b') (c:=c) (n:=n) (.inl (by simp)) (.inl (by simp));rwa [tb,tc]at this
   ·by_cases h2:b'=c
    ·subst h2;rw [hc]at hx';cases hx';refine .inr ⟨.inl (by simp),bly l,?_,zge l⟩;rw [tc];rfl
    ·exact .inl ⟨hk b' _ hx',by simp [h1,h2],hx'⟩
theorem zri {args:List V}{H:Hp}{r r':AR}(h:CcR args H r)(h':CcR args H r'):r'=r:=by
 obtain⟨b,rfl,_,h⟩:=h;obtain⟨b',he,_,h'⟩:=h';simp only [List.cons.injEq,V.ptr.injEq,and_true]at he;subst he;rcases h with⟨hb,rfl⟩|⟨c,n,l,hne,hb,hc,rfl⟩
 ·rcases h' with⟨hb',rfl⟩|⟨c',n',l',hne',hb',hc',rfl⟩
  ·rfl
  ·rw [hb]at hb';simp [bl0,bl1]at hb'
 ·rcases h' with⟨hb',rfl⟩|⟨c',n',l',hne',hb',hc',rfl⟩
  ·rw [hb]at hb';simp [bl0,bl1]at hb'
  ·rw [hb]at hb';simp [bl1]at hb';rw [hb'.1]
noncomputable def ΔC:FuncId→List V→Hp→Option AR:=zbJ 230 (conD CcR) noΔ
theorem zu5:zaT prog ΔC:=zV (zaq ccR_ok) zg
theorem ΔC_A:ΔC 230 [.ptr 0 0] ⟨[(0,.ty 224 [.nilP,.nilS])],1⟩=some ⟨True,.tup [],⟨[(0,.ty 224 [.ptr 0 0,.nilS])],1⟩,[0],[0]⟩:=by have hr:CcR [.ptr 0 0] ⟨[(0,.ty 224 [.nilP,.nilS])],1⟩ ⟨True,.tup [],⟨[(0,.ty 224 [.ptr 0 0,.nilS])],1⟩,[0],[0]⟩:=⟨0,rfl,zbp rfl,.inl ⟨rfl,rfl⟩⟩;exact zaD hr fun _ h'=>zri hr h'
theorem ΔC_B(n:Nat)(l:List UInt8):ΔC 230 [.ptr 0 0] ⟨[(0,.ty 224 [.ptr 0 0,.sl 1 0 n 1 none]),(1,.ty 5 (l.map zbv))],2⟩=some ⟨True,.tup [],⟨[(0,.ty 224 [.ptr 0 0,.sl 1 0 n 1 none]),(1,.ty 5 (l.map zbv))],2⟩,[0,1],[]⟩:=by have hr:CcR [.ptr 0 0] ⟨[(0,.ty 224 [.ptr 0 0,.sl 1 0 n 1 none]),(1,.ty 5 (l.map zbv))],2⟩ ⟨True,.tup [],⟨[(0,.ty 224 [.ptr 0 0,.sl 1 0 n 1 none]),(1,.ty 5 (l.map zbv))],2⟩,[0,1],[]⟩:=⟨0,rfl,zbp rfl,.inr ⟨1,n,l,by decide,rfl,rfl,rfl⟩⟩;exact zaD hr fun _ h'=>zri hr h'
theorem zg1 {C:Cfg}{P:Program}{env:Env}{H:Hp}(x:Operand)(ts:Array TypeId):step1 C P env (.call { callee:=.builtin .unsafeSliceData,args:=⟨[x]⟩,argTypes:=ts }) H=mkSR false (ev env x).cond (XR.ar H (za5 (ev env x).val H)) H:=zX rfl (by simp [Op.operands,Call.operands,needs]) rfl
theorem zjV {C:Cfg}{P:Program}{env:Env}{H:Hp}(x y:Operand)(t u:TypeId):step1 C P env (.call { callee:=.builtin .unsafeString,args:=⟨[x,y]⟩,argTypes:=⟨[t,u]⟩ }) H=mkSR false ((ev env x).cond∧(ev env y).cond) (XR.ar H (zcb P t (ev env x).val (ev env y).val H)) H:=zX rfl (by simp [Op.operands,Call.operands,needs]) rfl
theorem zlP(b off n sz:Nat)(kc:Option Nat)(H:Hp)(h:0<n):XR.ar H (za5 (.sl b off n sz kc) H)=⟨True,.ptr b off,H,[],[]⟩:=by obtain⟨m,rfl⟩:∃ m,n=m+1:=⟨n - 1,by omega⟩;rfl
theorem bytes_of(l:List UInt8):bytesOf (l.map zbv)=some l:=by
 induction l with
 |nil=>rfl
 |cons c l ih=>rw [List.map_cons];show (bytesOf (l.map zbv)).map (UInt8.ofNat ((c.toNat:Int)).toNat::·)=_;rw [ih];simp
theorem zr2(l:List UInt8)(h:0<l.length)(h2:l.length≤1000000)(x:Blk):∀ P,P=prog→zcb P 244 (.ptr 1 0) (.int .i64 l.length) ⟨[(0,x),(1,.ty 5 (l.map zbv))],2⟩=some ⟨.str l,⟨[(0,x)],2⟩,[1],[1]⟩:=by
 rintro _ rfl;have hp:prog.underlying 244=some (.pointer 5):=by kernel_rfl
 have hs:zL prog 5=some 1:=by kernel_rfl
 have hn:decide ((l.length:Int)=0)=false:=by rw [decide_eq_false_iff_not];omega
 have ht:(l.map zbv).take (l.length:Int).toNat=l.map zbv:=by rw [Int.toNat_natCast,List.take_of_length_le (by simp)]
 have hb:∀ x∈l.map zbv,isByte x=true:=fun x hx=>by obtain⟨c,_,rfl⟩:=List.mem_map.1 hx;have:=c.toNat_lt;simp only [zbv,isByte,Bool.and_eq_true,decide_eq_true_eq];exact⟨by omega,by omega⟩
 have hc:decide (True∧zL prog 5=some 1∧0<(l.length:Int)∧(l.length:Int)≤((l.map zbv).length:Nat)∧(l.length:Int)≤9223372036854775807∧(l.map zbv).all isByte=true)=true:=by rw [decide_eq_true_eq];exact⟨trivial,hs,by omega,by simp,by omega,List.all_eq_true.2 hb⟩
 have hg:Hp.get ⟨[(0,x),(1,.ty 5 (l.map zbv))],2⟩ 1=some (.ty 5 (l.map zbv)):=rfl;unfold zcb;simp only [hn,hp,hg,ht,bytes_of];rw [hc];rfl
theorem zns(l:List UInt8):(l.map zbv).all V.one=true:=List.all_eq_true.2 fun x hx=>by obtain⟨c,_,rfl⟩:=List.mem_map.1 hx;rfl
theorem writeA(s:List UInt8)(hs:s.length≤1000000)(h0:¬s.length=0):NCall prog 210 [.ptr 0 0,.str s] [.ty 224 [.nilP,.nilS]] [0] (.tup [.int .i64 s.length,.nilI]) ⟨[(0,.ty 224 [.ptr 0 0,.sl 1 0 s.length 1 none]),(1,.ty 5 (s.map zbv))],2⟩:=by
 refine NCall.walkW (rs:=[.tmp 4,.tmp 5]) [0,1,4,5] [] 1 [0] mixed (zh) (zu5) zpx func210 rfl ntmps210 rfl (by kernel_rfl) (by simp) (by simp) (by simp) (by simp) ?_;simp (disch:=first|assumption|(push_cast<;>omega)|rfl|omega) only [go_sem,ΔC_A,h0];refine⟨rfl,⟨by omega,by omega,zns s⟩,rfl,[(4,.int .i64 s.length),(5,.nilI)],Sub.of [] rfl (by simp only [go_sem]) ?_ (by decide) (fun b hb hw=>absurd (Nat.lt_one_iff.1 hb) (by simpa using hw)),rfl⟩;simp only [go_sem];exact zA (zbB s)
theorem writeB(l s:List UInt8)(hl:l.length≤1000000)(hs:s.length≤1000000)(h0:¬s.length=0):NCall prog 210 [.ptr 0 0,.str s] [.ty 224 [.ptr 0 0,.sl 1 0 l.length 1 none],.ty 5 (l.map zbv)] [0,1] (.tup [.int .i64 s.length,.nilI]) ⟨[(0,.ty 224 [.ptr 0 0,.sl 2 0 (l.length+s.length) 1 none]),(2,.ty 5 ((l++s).map zbv))],3⟩:=by
 refine NCall.walkW (rs:=[.tmp 4,.tmp 5]) [0,1,4,5] [] 2 [0,1] mixed (zh) (zu5) zpx func210 rfl ntmps210 rfl (by kernel_rfl) (by simp) (by simp) (by simp) (by simp) ?_;simp (disch:=first|assumption|(push_cast<;>omega)|rfl|omega) only [go_sem,ΔC_B,h0];refine⟨⟨by simp,by omega,by omega,zns s⟩,rfl,rfl,[(4,.int .i64 s.length),(5,.nilI)],Sub.of [] rfl (by simp only [go_sem]) ?_ (by decide) (fun b hb hw=>absurd hb (by match b with|0=>simp at hw|1=>simp at hw|b+2=>simp)),rfl⟩;simp only [go_sem];rw [List.take_of_length_le (by simp), ←List.map_append];exact zA (zbB _)
theorem writeE(l:List UInt8)(hl:l.length≤1000000):NCall prog 210 [.ptr 0 0,.str []] [.ty 224 [.ptr 0 0,.sl 1 0 l.length 1 none],.ty 5 (l.map zbv)] [0,1] (.tup [.int .i64 0,.nilI]) ⟨[(0,.ty 224 [.ptr 0 0,.sl 1 0 l.length 1 none]),(1,.ty 5 (l.map zbv))],2⟩:=by
 refine NCall.walkW (rs:=[.tmp 4,.tmp 5]) [0,1,4,5] [] 2 [0,1] mixed (zh) (zu5) zpx func210 rfl ntmps210 rfl (by kernel_rfl) (by simp) (by simp) (by simp) (by simp) ?_;simp (disch:=first|assumption|(push_cast<;>omega)|rfl|omega) only [go_sem,ΔC_B];refine⟨rfl,[(4,.int .i64 0),(5,.nilI)],Sub.of [] rfl (by simp only [go_sem]) ?_ (by decide) (fun b hb hw=>absurd hb (by match b with|0=>simp at hw|1=>simp at hw|b+2=>simp)),rfl⟩;simp only [go_sem];exact zA (zbB l)
theorem stringB(l:List UInt8)(hl:l.length≤1000000)(h0:0<l.length):NCall prog 212 [.ptr 0 0] [.ty 224 [.ptr 0 0,.sl 1 0 l.length 1 none],.ty 5 (l.map zbv)] [1] (.str l) ⟨[(0,.ty 224 [.ptr 0 0,.sl 1 0 l.length 1 none])],2⟩:=by
 refine NCall.walkW (rs:=[.tmp 2]) [0,2] [] 2 [1] mixed (zh) (zg) call212 func212 rfl ntmps212 rfl (by kernel_rfl) (by simp) (by simp) (by simp) (by simp) ?_;have hu:=fun x=>zr2 l h0 hl x prog rfl;simp (disch:=first|assumption|(push_cast<;>omega)|rfl|omega) only [go_sem,zg1,zjV,zlP,hu];refine⟨rfl,AXk.intro (by kernel_rfl) ?_⟩;simp (disch:=first|assumption|(push_cast<;>omega)|rfl|omega) only [go_sem];refine⟨[(2,.str l)],Sub.of [] rfl (by simp only [go_sem]) (by simp only [go_sem]) (by decide) (fun b hb hw=>?_),rfl⟩;match b,hb with
 |0,_=>rfl
 |1,_=>simp at hw
def WsR(args:List V)(H:Hp)(r:AR):Prop:=∃ b s,args=[.ptr b 0,.str s]∧s.length≤1000000∧(∀ b x,H.get b=some x→b<H.next)∧
 ((H.get b=some bl0∧s≠[]∧r=⟨True,.tup [.int .i64 s.length,.nilI],(H.put b (bl1 b H.next s.length)).new (bly s),[b],[b]⟩)∨
  ∃ c l,b≠c∧l.length≤1000000∧H.get b=some (bl1 b c l.length)∧H.get c=some (bly l)∧
   ((s≠[]∧r=⟨True,.tup [.int .i64 s.length,.nilI],((H.put b (bl1 b H.next (l.length+s.length))).kill c).new (bly (l++s)),[b,c],[b,c]⟩)∨
    (s=[]∧r=⟨True,.tup [.int .i64 0,.nilI],H,[b,c],[b,c]⟩)))
theorem wsR_ok:∀ args H r,WsR args H r→HCall prog 210 args H r:=by
 rintro args H r ⟨b,s,rfl,hs,hk,h⟩;rcases h with⟨hb,h0,rfl⟩|⟨c,l,hne,hl,hb,hc,h⟩
 ·have tb:zK [b] H.next b=0:=by unfold zK;rw [if_pos (hk b _ hb)];simp
  have tn:zK [b] H.next H.next=1:=by unfold zK;rw [if_neg (by omega)];simp
  have hbn:=hk b _ hb;refine HCall.of (writeA s hs (fun e=>h0 (List.eq_nil_of_length_eq_zero e))) [b] _ (.tup [.int .i64 s.length,.nilI]) H ((H.put b (bl1 b H.next s.length)).new (bly s)) rfl (by simp) (zbl (Nat.zero_lt_succ _) rfl (by simp [zQ])) (fun i x hx=>?_) (.same (.tup (by simp [zb4,zhq]))) (by show H.next+1+1=H.next+2;omega) (fun b' x' hx'=>?_) (fun b' hb' hw=>?_)
  ·match i with
   |0=>cases hx;exact⟨b,_,rfl,hb,.ty (zA (by simp [zhp,zdR]))⟩
   |i+1=>simp at hx
  ·rw [Hp.get_new]at hx';split at hx'
   ·rename_i he;have he':b'=H.next:=he;subst he';cases hx';refine .inr ⟨.inr ⟨Nat.le_refl _,Nat.lt_succ_self _⟩,bly s,?_,zge s⟩;rw [tn];rfl
   ·rw [Hp.get_put]at hx';split at hx'
    ·rename_i he;subst he;rw [hb]at hx';cases hx';refine .inr ⟨.inl (by simp),bl1 0 1 s.length,?_,?_⟩
     ·rw [tb];rfl
     ·have:=zfu (π:=zK [b'] H.next) (N:=fun b=>b∈[b']∨(H.next≤b∧b<H.next+1)) (b:=b') (c:=H.next) (n:=s.length) (.inl (by simp)) (.inr ⟨Nat.le_refl _,Nat.lt_succ_self _⟩);rwa [tb,tn]at this
    ·rename_i he;exact .inl ⟨hk b' _ hx',by simpa using he,hx'⟩
  ·have h1:b'≠H.next:=by omega
   rw [Hp.get_new,if_neg (show ¬b'=(H.put b _).next from h1),Hp.get_put,if_neg (by simpa using hw)]
 have tb:zK [b,c] H.next b=0:=by unfold zK;rw [if_pos (hk b _ hb)];simp
 have tc:zK [b,c] H.next c=1:=by unfold zK;rw [if_pos (hk c _ hc)];exact idx1 hne
 have tn:zK [b,c] H.next H.next=2:=by unfold zK;rw [if_neg (by omega)];simp
 rcases h with⟨h0,rfl⟩|⟨rfl,rfl⟩
 ·refine HCall.of (writeB l s hl hs (fun e=>h0 (List.eq_nil_of_length_eq_zero e))) [b,c] _ (.tup [.int .i64 s.length,.nilI]) H (((H.put b (bl1 b H.next (l.length+s.length))).kill c).new (bly (l++s))) rfl (by simpa using hne) (zbl (Nat.zero_lt_succ _) rfl (by simp [zQ])) (fun i x hx=>?_) (.same (.tup (by simp [zb4,zhq]))) (by show H.next+1+2=H.next+3;omega) (fun b' x' hx'=>?_) (fun b' hb' hw=>?_)
  ·match i with
   |0=>cases hx;exact⟨b,_,rfl,hb,zfu (π:=fun i=>[b,c].getD i 0) (b:=0) (c:=1) (Nat.zero_lt_succ _) (Nat.lt_succ_self _)⟩
   |1=>cases hx;exact⟨c,_,rfl,hc,zge l⟩
   |i+2=>simp at hx
  ·rw [Hp.get_new]at hx';split at hx'
   ·rename_i he;have he':b'=H.next:=he;subst he';cases hx';refine .inr ⟨.inr ⟨Nat.le_refl _,Nat.lt_succ_self _⟩,bly (l++s),?_,zge _⟩;rw [tn];rfl
   ·rw [Hp.get_kill]at hx';split at hx'
    ·cases hx'
    ·rename_i hec;rw [Hp.get_put]at hx';split at hx'
     ·rename_i he;subst he;rw [hb]at hx';cases hx';refine .inr ⟨.inl (by simp),bl1 0 2 (l.length+s.length),?_,?_⟩
      ·rw [tb];rfl
      ·have:=zfu (π:=zK [b',c] H.next) (N:=fun b=>b∈[b',c]∨(H.next≤b∧b<H.next+1)) (b:=b') (c:=H.next) (n:=l.length+s.length) (.inl (by simp)) (.inr ⟨Nat.le_refl _,Nat.lt_succ_self _⟩);rwa [tb,tn]at this
     ·rename_i he;exact .inl ⟨hk b' _ hx',by simp [he,hec],hx'⟩
  ·have h1:b'≠H.next:=by omega
   have h2:b'≠b∧b'≠c:=by simpa using hw
   rw [Hp.get_new,if_neg (show ¬b'=((H.put b _).kill c).next from h1),Hp.get_kill,if_neg h2.2,Hp.get_put,if_neg h2.1]
 ·refine HCall.of (writeE l hl) [b,c] _ (.tup [.int .i64 0,.nilI]) H H rfl (by simpa using hne) (zbl (Nat.zero_lt_succ _) rfl (by simp [zQ])) (fun i x hx=>?_) (.same (.tup (by simp [zb4,zhq]))) rfl (fun b' x' hx'=>?_) (fun b' hb' hw=>rfl)
  ·match i with
   |0=>cases hx;exact⟨b,_,rfl,hb,zfu (π:=fun i=>[b,c].getD i 0) (b:=0) (c:=1) (Nat.zero_lt_succ _) (Nat.lt_succ_self _)⟩
   |1=>cases hx;exact⟨c,_,rfl,hc,zge l⟩
   |i+2=>simp at hx
  ·by_cases h1:b'=b
   ·subst h1;rw [hb]at hx';cases hx';refine .inr ⟨.inl (by simp),bl1 0 1 l.length,?_,?_⟩
    ·rw [tb];rfl
    ·have:=zfu (π:=zK [b',c] H.next) (N:=fun b=>b∈[b',c]∨(H.next≤b∧b<H.next)) (b:=b') (c:=c) (n:=l.length) (.inl (by simp)) (.inl (by simp));rwa [tb,tc]at this
   ·by_cases h2:b'=c
    ·subst h2;rw [hc]at hx';cases hx';refine .inr ⟨.inl (by simp),bly l,?_,zge l⟩;rw [tc];rfl
    ·exact .inl ⟨hk b' _ hx',by simp [h1,h2],hx'⟩
theorem zh7:∀ {l l':List UInt8},l.map zbv=l'.map zbv→l=l'
 |[],[],_=>rfl
 |[],_::_,h=>by simp at h
 |_::_,[],h=>by simp at h
 |a::l,b::l',h=>by
  simp only [List.map_cons,List.cons.injEq]at h;have h1:=zh7 h.2;have h2:(a.toNat:Int)=(b.toNat:Int):=by have:=h.1;simpa [zbv] using this
  have h3:a=b:=UInt8.toNat_inj.1 (by omega);rw [h1,h3]
theorem zgq {args:List V}{H:Hp}{r r':AR}(h:WsR args H r)(h':WsR args H r'):r'=r:=by
 obtain⟨b,s,rfl,_,_,h⟩:=h;obtain⟨b',s',he,_,_,h'⟩:=h';simp only [List.cons.injEq,V.ptr.injEq,V.str.injEq,and_true]at he;obtain⟨rfl,rfl⟩:=he;rcases h with⟨hb,h0,rfl⟩|⟨c,l,hne,hl,hb,hc,h⟩
 ·rcases h' with⟨hb',h0',rfl⟩|⟨c',l',hne',hl',hb',hc',h'⟩
  ·rfl
  ·rw [hb]at hb';simp [bl0,bl1]at hb'
 ·rcases h' with⟨hb',h0',rfl⟩|⟨c',l',hne',hl',hb',hc',h'⟩
  ·rw [hb]at hb';simp [bl0,bl1]at hb'
  ·rw [hb]at hb';simp only [bl1,Option.some.injEq,Blk.ty.injEq,List.cons.injEq,V.sl.injEq,true_and,and_true]at hb';obtain⟨rfl,_⟩:=hb';rw [hc]at hc';simp only [bly,Option.some.injEq,Blk.ty.injEq,true_and]at hc';obtain rfl:=zh7 hc';rcases h with⟨h0,rfl⟩|⟨h0,rfl⟩
   ·rcases h' with⟨_,rfl⟩|⟨h1,rfl⟩
    ·rfl
    ·exact absurd h1 h0
   ·rcases h' with⟨h1,rfl⟩|⟨_,rfl⟩
    ·exact absurd h0 h1
    ·rfl
def StR(args:List V)(H:Hp)(r:AR):Prop:=∃ b c l,args=[.ptr b 0]∧(∀ b x,H.get b=some x→b<H.next)∧b≠c∧l.length≤1000000∧0<l.length∧H.get b=some (bl1 b c l.length)∧H.get c=some (bly l)∧
 r=⟨True,.str l,H.kill c,[b,c],[c]⟩
theorem stR_ok:∀ args H r,StR args H r→HCall prog 212 args H r:=by
 rintro args H r ⟨b,c,l,rfl,hk,hne,hl,h0,hb,hc,rfl⟩;have tb:zK [b,c] H.next b=0:=by unfold zK;rw [if_pos (hk b _ hb)];simp
 have tc:zK [b,c] H.next c=1:=by unfold zK;rw [if_pos (hk c _ hc)];exact idx1 hne
 refine HCall.of (stringB l hl h0) [b,c] _ (.str l) H (H.kill c) rfl (by simpa using hne) (zbl (Nat.zero_lt_succ _) rfl (by simp)) (fun i x hx=>?_) (.same (.str _)) rfl (fun b' x' hx'=>?_) (fun b' hb' hw=>?_)
 ·match i with
  |0=>cases hx;exact⟨b,_,rfl,hb,zfu (π:=fun i=>[b,c].getD i 0) (b:=0) (c:=1) (Nat.zero_lt_succ _) (Nat.lt_succ_self _)⟩
  |1=>cases hx;exact⟨c,_,rfl,hc,zge l⟩
  |i+2=>simp at hx
 ·rw [Hp.get_kill]at hx';split at hx'
  ·cases hx'
  ·rename_i hec;by_cases h1:b'=b
   ·subst h1;rw [hb]at hx';cases hx';refine .inr ⟨.inl (by simp),bl1 0 1 l.length,?_,?_⟩
    ·rw [tb];rfl
    ·have:=zfu (π:=zK [b',c] H.next) (N:=fun b=>b∈[b',c]∨(H.next≤b∧b<H.next)) (b:=b') (c:=c) (n:=l.length) (.inl (by simp)) (.inl (by simp));rwa [tb,tc]at this
   ·exact .inl ⟨hk b' _ hx',by simp [h1,hec],hx'⟩
 ·have h2:b'≠c:=by simpa using hw
  rw [Hp.get_kill,if_neg h2]
theorem stR_uniq {args:List V}{H:Hp}{r r':AR}(h:StR args H r)(h':StR args H r'):r'=r:=by obtain⟨b,c,l,rfl,_,_,_,_,hb,hc,rfl⟩:=h;obtain⟨b',c',l',he,_,_,_,_,hb',hc',rfl⟩:=h';simp only [List.cons.injEq,V.ptr.injEq,and_true]at he;subst he;rw [hb]at hb';simp only [bl1,Option.some.injEq,Blk.ty.injEq,List.cons.injEq,V.sl.injEq,true_and,and_true]at hb';obtain⟨rfl,_⟩:=hb';rw [hc]at hc';simp only [bly,Option.some.injEq,Blk.ty.injEq,true_and]at hc';obtain rfl:=zh7 hc';rfl
noncomputable def ΔB:FuncId→List V→Hp→Option AR:=zbJ 210 (conD WsR) (zbJ 212 (conD StR) noΔ)
theorem zu6:zaT prog ΔB:=zV (zaq wsR_ok) (zV (zaq stR_ok) zg)
theorem ΔB_0 {s:List UInt8}(hs:s.length≤1000000)(h0:s≠[]):ΔB 210 [.ptr 0 0,.str s] ⟨[(0,bl0)],1⟩=some ⟨True,.tup [.int .i64 s.length,.nilI],⟨[(1,bly s),(0,bl1 0 1 s.length)],2⟩,[0],[0]⟩:=by have hr:WsR [.ptr 0 0,.str s] ⟨[(0,bl0)],1⟩ ⟨True,.tup [.int .i64 s.length,.nilI],⟨[(1,bly s),(0,bl1 0 1 s.length)],2⟩,[0],[0]⟩:=⟨0,s,rfl,hs,zbp rfl,.inl ⟨rfl,h0,rfl⟩⟩;exact zaD hr fun _ h'=>zgq hr h'
theorem ΔB_1 {l s:List UInt8}(hl:l.length≤1000000)(hs:s.length≤1000000)(h0:s≠[]):ΔB 210 [.ptr 0 0,.str s] ⟨[(0,bl1 0 1 l.length),(1,bly l)],2⟩=some ⟨True,.tup [.int .i64 s.length,.nilI],⟨[(2,bly (l++s)),(0,bl1 0 2 (l.length+s.length))],3⟩,[0,1],[0,1]⟩:=by have hr:WsR [.ptr 0 0,.str s] ⟨[(0,bl1 0 1 l.length),(1,bly l)],2⟩ ⟨True,.tup [.int .i64 s.length,.nilI],⟨[(2,bly (l++s)),(0,bl1 0 2 (l.length+s.length))],3⟩,[0,1],[0,1]⟩:=⟨0,s,rfl,hs,zbp rfl,.inr ⟨1,l,by decide,hl,rfl,rfl,.inl ⟨h0,rfl⟩⟩⟩;exact zaD hr fun _ h'=>zgq hr h'
theorem ΔB_3 {l s:List UInt8}{n:Nat}(hn:n=l.length)(hl:l.length≤1000000)(hs:s.length≤1000000)(h0:s≠[]):ΔB 210 [.ptr 0 0,.str s] ⟨[(2,bly l),(0,bl1 0 2 n)],3⟩=some ⟨True,.tup [.int .i64 s.length,.nilI],⟨[(3,bly (l++s)),(0,bl1 0 3 (l.length+s.length))],4⟩,[0,2],[0,2]⟩:=by subst hn;have hr:WsR [.ptr 0 0,.str s] ⟨[(2,bly l),(0,bl1 0 2 l.length)],3⟩ ⟨True,.tup [.int .i64 s.length,.nilI],⟨[(3,bly (l++s)),(0,bl1 0 3 (l.length+s.length))],4⟩,[0,2],[0,2]⟩:=⟨0,s,rfl,hs,zbp rfl,.inr ⟨2,l,by decide,hl,rfl,rfl,.inl ⟨h0,rfl⟩⟩⟩;exact zaD hr fun _ h'=>zgq hr h'
theorem ΔB_e {l:List UInt8}(hl:l.length≤1000000):ΔB 210 [.ptr 0 0,.str []] ⟨[(0,bl1 0 1 l.length),(1,bly l)],2⟩=some ⟨True,.tup [.int .i64 0,.nilI],⟨[(0,bl1 0 1 l.length),(1,bly l)],2⟩,[0,1],[0,1]⟩:=by have hr:WsR [.ptr 0 0,.str []] ⟨[(0,bl1 0 1 l.length),(1,bly l)],2⟩ ⟨True,.tup [.int .i64 0,.nilI],⟨[(0,bl1 0 1 l.length),(1,bly l)],2⟩,[0,1],[0,1]⟩:=⟨0,[],rfl,by simp,zbp rfl,.inr ⟨1,l,by decide,hl,rfl,rfl,.inr ⟨rfl,rfl⟩⟩⟩;exact zaD hr fun _ h'=>zgq hr h'
theorem ΔB_s {l:List UInt8}(hl:l.length≤1000000)(h0:0<l.length):ΔB 212 [.ptr 0 0] ⟨[(0,bl1 0 1 l.length),(1,bly l)],2⟩=some ⟨True,.str l,⟨[(0,bl1 0 1 l.length)],2⟩,[0,1],[1]⟩:=by have hr:StR [.ptr 0 0] ⟨[(0,bl1 0 1 l.length),(1,bly l)],2⟩ ⟨True,.str l,⟨[(0,bl1 0 1 l.length)],2⟩,[0,1],[1]⟩:=⟨0,1,l,rfl,zbp rfl,by decide,hl,h0,rfl,rfl,rfl⟩;exact zaD hr fun _ h'=>stR_uniq hr h'
end Go.Proofs
