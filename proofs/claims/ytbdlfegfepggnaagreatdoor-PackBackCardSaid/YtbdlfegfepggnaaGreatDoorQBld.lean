/- strings.Builder: the calls that nat.text makes. -/
import Derived.Test.YtbdlfegfepggnaaGreatDoorQNat4
import Derived.Laws.Externs
import Derived.Lib.Builder
set_option linter.all false
set_option maxHeartbeats 16000000
set_option maxRecDepth 100000
noncomputable section
namespace Go.Proofs
open Tryz Go.Ab Go.Pl
def zrF(x:V)(H:Hp):HCall prog 211 [x] H ⟨True,x,H,[],[]⟩:=by
 refine⟨fun _=>Stat.refl H,fun _ g base D w vs hgl hI hvs hpw hD=>?_⟩;obtain⟨v,hv,rv⟩:=hpw 0 _ rfl;have hvs':vs=#[v]:=by
  apply Yao;intro i;match i with
  |0=>exact hv
  |i+1=>rw[Yr (by simp at hvs;omega),Yr Zs]
 subst hvs';refine .inr ⟨v,w,?_,g,v,rfl,rv,Post.refl hI rfl rfl (.refl _) rfl⟩;rw[run_callFunc_extern (fn:=Tryz.f211) func211 Zk rfl rfl (e:=Go.Extern.AbiNoEscape.same) Zk,Lib.run_noEscape];rfl
def zyO(args:ZA)(H:Hp)(r:AR):Prop:=∃x,args=[x]∧r=⟨True,x,H,[],[]⟩
def zve:∀args H r,zyO args H r→HCall prog 211 args H r:=by rintro args H r ⟨x,rfl,rfl⟩;exact zrF x H
def ΔN:FuncId→ZA→Hp→Option AR:=zaQ 211 (conD zyO) noΔ
def ΔN_ok:zay prog ΔN:=zK (zT zve) zg
@[go_sem]def ΔN_eq(x:V)(H:Hp):ΔN 211 [x] H=some ⟨True,x,H,[],[]⟩:=zan (R:=zyO) ⟨x,rfl,rfl⟩ fun r' ⟨x',e1,e2⟩=>by simp at e1;rw[e2,e1]
theorem ptr_e1(H:Hp):aBin prog .eql 204 .nilP .nilP H=⟨True,.bool true,H,[],[]⟩:=Zk
def ptr_e2(H:Hp):aBin prog .eql 204 (.ptr 0 0) .nilP H=⟨True,.bool false,H,[],[]⟩:=Zk
def ptr_e3(H:Hp):aBin prog .neq 204 (.ptr 0 0) (.ptr 0 0) H=⟨True,.bool false,H,[],[]⟩:=Zk
def ptr_c1(a b:V):zcX prog 204 221 (.ptr 0 0) ⟨[(0,.ty 206 [a,b])],1⟩=⟨True,.ptr 0 0,⟨[(0,.ty 206 [a,b])],1⟩,[0],[]⟩:=Zk
def ptr_c2(a b:V):zcX prog 221 204 (.ptr 0 0) ⟨[(0,.ty 206 [a,b])],1⟩=⟨True,.ptr 0 0,⟨[(0,.ty 206 [a,b])],1⟩,[0],[]⟩:=Zk
def zlp {π:Nat→Nat}{N:Nat→Prop}(t:TypeId)(cs cs':ZA):RnB π N (.ty t cs) (.ty t cs')↔LRel (Rn π N) cs cs':=⟨fun h=>by cases h;assumption,.ty⟩
attribute [local go_sem] zlp
def zaj(l:ZL):∀x∈l.map zq,Pure x:=fun x h=>by obtain⟨c,_,rfl⟩:=YZ.1 h;exact .int _ _
def zsJ:NCall prog 197 [.ptr 0 0] [.ty 206 [.nilP,.nilS]] [0] (.tup []) ⟨[(0,.ty 206 [.ptr 0 0,.nilS])],1⟩:=by refine Xi (rs:=[]) [0,6,19] [] 1 [0] mixed (zh) (ΔN_ok) zxf func197 rfl ntmps197 rfl Zk Zs Zs Zs Zs ?_;simp only[go_sem,ptr_e1,ptr_e2,ptr_e3,ptr_c1,ptr_c2];exact⟨rfl,[],Sub.of [] rfl Zg Zg Zd (fun b hb hw=>absurd (YaA.1 hb) (by simpa using hw))⟩
def zsI(n:Nat)(l:ZL):NCall prog 197 [.ptr 0 0] [.ty 206 [.ptr 0 0,.sl 1 0 n 1 none],.ty 5 (l.map zq)] [] (.tup []) ⟨[(0,.ty 206 [.ptr 0 0,.sl 1 0 n 1 none]),(1,.ty 5 (l.map zq))],2⟩:=by
 refine Xi (rs:=[]) [0,6,19] [] 2 [] mixed (zh) (ΔN_ok) zxf func197 rfl ntmps197 rfl Zk Zs Zs Zs Zs ?_;simp only[go_sem,ptr_e1,ptr_e2,ptr_e3];refine⟨[],Sub.of [] rfl Zg ?_ Zd (fun b hb hw=>?_)⟩
 ·simp only[go_sem];exact zB (zaj l)
 match b,hb with
 |0,_=>rfl
 |1,_=>rfl
def bl0:Blk:=.ty 206 [.nilP,.nilS]
def bl1(b c n:Nat):Blk:=.ty 206 [.ptr b 0,.sl c 0 n 1 none]
def bly(l:ZL):Blk:=.ty 5 (l.map zq)
def zfc {π:Nat→Nat}{N:Nat→Prop}{b c n:Nat}(hb:N b)(hc:N c):RnB π N (bl1 b c n) (bl1 (π b) (π c) n):=by
 refine .ty ⟨rfl,fun i x y hx hy=>?_⟩;match i with
 |0=>cases hx;cases hy;exact .ptr hb
 |1=>cases hx;cases hy;exact .sl hc (.inl rfl)
 |i+2=>simp at hx
def zbG {π:Nat→Nat}{N:Nat→Prop}(l:ZL):RnB π N (bly l) (bly l):=.ty (zB (zaj l))
def zbQ {π:Nat→Nat}{N:Nat→Prop}{b c:Nat}{r:ZA}(hb:N b)(hc:π b=c)(hr:∀x∈r,Pure x):LRel (Rn π N) (.ptr b 0::r) (.ptr c 0::r):=by
 subst hc;refine⟨rfl,fun i x y hx hy=>?_⟩;match i with
 |0=>cases hx;cases hy;exact .ptr hb
 |i+1=>simp only[Yar]at hx hy;rw[hx]at hy;cases hy;exact .same (hr _ (YV hx))
def idx1 {b c:Nat}(h:b≠c):List.idxOf c [b,c]=1:=by
 have h1:(b==c)=false:=by simpa using h
 rw[List.idxOf_cons,h1];simp
def CcR(args:ZA)(H:Hp)(r:AR):Prop:=∃b,args=[.ptr b 0]∧(∀b x,H.get b=some x→b<H.next)∧
 ((H.get b=some bl0∧r=⟨True,.tup [],H.put b (.ty 206 [.ptr b 0,.nilS]),[b],[b]⟩)∨
  ∃c n l,b≠c∧H.get b=some (bl1 b c n)∧H.get c=some (bly l)∧r=⟨True,.tup [],H,[b,c],[]⟩)
def ccR_ok:∀args H r,CcR args H r→HCall prog 197 args H r:=by
 rintro args H r ⟨b,rfl,hk,h⟩;rcases h with⟨hb,rfl⟩|⟨c,n,l,hne,hb,hc,rfl⟩
 ·have tc:zu [b] H.next b=0:=by unfold zu;rw[Yi (hk b _ hb)];simp
  refine HCall.of zsJ [b] _ (.tup []) H (H.put b (.ty 206 [.ptr b 0,.nilS])) rfl Zs (zbQ Zd rfl Zs) (fun i x hx=>?_) (.same (.tup Zs)) rfl (fun b' x' hx'=>?_) (fun b' hb' hw=>?_)
  ·match i with
   |0=>cases hx;exact⟨b,_,rfl,hb,.ty (zB (by simp[zgX,zdC]))⟩
   |i+1=>simp at hx
  ·rw[Xd]at hx';split at hx'
   ·rename_i he;subst he;rw[hb]at hx';cases hx';refine .inr ⟨.inl Zs,.ty 206 [.ptr 0 0,.nilS],?_,.ty ?_⟩
    ·rw[tc];rfl
    exact zbQ (.inl Zs) tc (by simp[zdC])
   rename_i he;exact .inl ⟨hk b' _ hx',by simpa using he,hx'⟩
  rw[Xd,Ye (by simpa using hw)]
 have tb:zu [b,c] H.next b=0:=by unfold zu;rw[Yi (hk b _ hb)];simp
 have tc:zu [b,c] H.next c=1:=by unfold zu;rw[Yi (hk c _ hc)];exact idx1 hne
 refine HCall.of (zsI n l) [b,c] _ (.tup []) H H rfl (by simpa using hne) (zbQ (Yaz _) rfl Zs) (fun i x hx=>?_) (.same (.tup Zs)) rfl (fun b' x' hx'=>?_) (fun b' hb' hw=>rfl)
 ·match i with
  |0=>cases hx;exact⟨b,_,rfl,hb,zfc (π:=fun i=>[b,c].getD i 0) (b:=0) (c:=1) (Yaz _) (YD _)⟩
  |1=>cases hx;exact⟨c,_,rfl,hc,zbG l⟩
  |i+2=>simp at hx
 by_cases h1:b'=b
 ·subst h1;rw[hb]at hx';cases hx';refine .inr ⟨.inl Zs,bl1 0 1 n,?_,?_⟩
  ·rw[tb];rfl
  have:=zfc (π:=zu [b',c] H.next) (N:=fun b=>b∈[b',c]∨(H.next≤b∧b<H.next)) (b:=b') (c:=c) (n:=n) (.inl Zs) (.inl Zs);rwa [tb,tc]at this
 by_cases h2:b'=c
 ·subst h2;rw[hc]at hx';cases hx';refine .inr ⟨.inl Zs,bly l,?_,zbG l⟩;rw[tc];rfl
 exact .inl ⟨hk b' _ hx',by simp[h1,h2],hx'⟩
def zqc {args:ZA}{H:Hp}{r r':AR}(h:CcR args H r)(h':CcR args H r'):r'=r:=by
 obtain⟨b,rfl,_,h⟩:=h;obtain⟨b',he,_,h'⟩:=h';simp only[Yt,V.ptr.injEq,Yad]at he;subst he;rcases h with⟨hb,rfl⟩|⟨c,n,l,hne,hb,hc,rfl⟩
 ·rcases h' with⟨hb',rfl⟩|⟨c',n',l',hne',hb',hc',rfl⟩
  ·rfl
  rw[hb]at hb';simp[bl0,bl1]at hb'
 rcases h' with⟨hb',rfl⟩|⟨c',n',l',hne',hb',hc',rfl⟩
 ·rw[hb]at hb';simp[bl0,bl1]at hb'
 rw[hb]at hb';simp[bl1]at hb';rw[hb'.1]
def ΔC:FuncId→ZA→Hp→Option AR:=zaQ 197 (conD CcR) noΔ
def ztt:zay prog ΔC:=zK (zT ccR_ok) zg
def ΔC_A:ΔC 197 [.ptr 0 0] ⟨[(0,.ty 206 [.nilP,.nilS])],1⟩=some ⟨True,.tup [],⟨[(0,.ty 206 [.ptr 0 0,.nilS])],1⟩,[0],[0]⟩:=by have hr:CcR [.ptr 0 0] ⟨[(0,.ty 206 [.nilP,.nilS])],1⟩ ⟨True,.tup [],⟨[(0,.ty 206 [.ptr 0 0,.nilS])],1⟩,[0],[0]⟩:=⟨0,rfl,zaZ rfl,.inl ⟨rfl,rfl⟩⟩;exact zan hr fun _ h'=>zqc hr h'
def ΔC_B(n:Nat)(l:ZL):ΔC 197 [.ptr 0 0] ⟨[(0,.ty 206 [.ptr 0 0,.sl 1 0 n 1 none]),(1,.ty 5 (l.map zq))],2⟩=some ⟨True,.tup [],⟨[(0,.ty 206 [.ptr 0 0,.sl 1 0 n 1 none]),(1,.ty 5 (l.map zq))],2⟩,[0,1],[]⟩:=by have hr:CcR [.ptr 0 0] ⟨[(0,.ty 206 [.ptr 0 0,.sl 1 0 n 1 none]),(1,.ty 5 (l.map zq))],2⟩ ⟨True,.tup [],⟨[(0,.ty 206 [.ptr 0 0,.sl 1 0 n 1 none]),(1,.ty 5 (l.map zq))],2⟩,[0,1],[]⟩:=⟨0,rfl,zaZ rfl,.inr ⟨1,n,l,Zd,rfl,rfl,rfl⟩⟩;exact zan hr fun _ h'=>zqc hr h'
def zgB {C:Cfg}{P:Program}{env:Env}{H:Hp}(x:Operand)(ts:Array TypeId):step1 C P env (.call { callee:=.builtin .unsafeSliceData,args:=⟨[x]⟩,argTypes:=ts }) H=mkSR false (ev env x).cond (XR.ar H (zaR (ev env x).val H)) H:=zZ rfl (by simp[Op.operands,Call.operands,needs]) rfl
def zji {C:Cfg}{P:Program}{env:Env}{H:Hp}(x y:Operand)(t u:TypeId):step1 C P env (.call { callee:=.builtin .unsafeString,args:=⟨[x,y]⟩,argTypes:=⟨[t,u]⟩ }) H=mkSR false ((ev env x).cond∧(ev env y).cond) (XR.ar H (zb2 P t (ev env x).val (ev env y).val H)) H:=zZ rfl (by simp[Op.operands,Call.operands,needs]) rfl
def zlg(b off n sz:Nat)(kc:Option Nat)(H:Hp)(h:0<n):XR.ar H (zaR (.sl b off n sz kc) H)=⟨True,.ptr b off,H,[],[]⟩:=by obtain⟨m,rfl⟩:∃m,n=m+1:=⟨n-1,Zo⟩;rfl
def zkD(l:ZL):bytesOf (l.map zq)=some l:=by
 induction l with
 |nil=>rfl
 |cons c l ih=>rw[Y7];show (bytesOf (l.map zq)).map (UInt8.ofNat ((c.toNat:Int)).toNat::·)=_;rw[ih];simp
def zqV(l:ZL)(h:0<l.length)(h2:l.length≤1000000)(x:Blk):∀P,P=prog→zb2 P 215 (.ptr 1 0) (.int .i64 l.length) ⟨[(0,x),(1,.ty 5 (l.map zq))],2⟩=some ⟨.str l,⟨[(0,x)],2⟩,[1],[1]⟩:=by
 rintro _ rfl;have hp:prog.underlying 215=some (.pointer 5):=Zk;have hs:zF prog 5=some 1:=Zk;have hn:decide ((l.length:Int)=0)=false:=by rw[Yat];omega
 have ht:(l.map zq).take (l.length:Int).toNat=l.map zq:=by rw[Yq,Yp Zs]
 have hb:∀x∈l.map zq,isByte x=true:=fun x hx=>by obtain⟨c,_,rfl⟩:=YZ.1 hx;have:=c.toNat_lt;simp only[zq,isByte,Yj,Yn];exact⟨Zo,Zo⟩
 have hc:decide (True∧zF prog 5=some 1∧0<(l.length:Int)∧(l.length:Int)≤((l.map zq).length:Nat)∧(l.length:Int)≤9223372036854775807∧(l.map zq).all isByte=true)=true:=by rw[Yn];exact⟨trivial,hs,Zo,Zs,Zo,Yl.2 hb⟩
 have hg:Hp.get ⟨[(0,x),(1,.ty 5 (l.map zq))],2⟩ 1=some (.ty 5 (l.map zq)):=rfl;unfold zb2;simp only[hn,hp,hg,ht,zkD];rw[hc];rfl
def zmD(l:ZL):(l.map zq).all V.one=true:=Yl.2 fun x hx=>by obtain⟨c,_,rfl⟩:=YZ.1 hx;rfl
def writeA(s:ZL)(hs:s.length≤1000000)(h0:¬s.length=0):NCall prog 186 [.ptr 0 0,.str s] [.ty 206 [.nilP,.nilS]] [0] (.tup [.int .i64 s.length,.nilI]) ⟨[(0,.ty 206 [.ptr 0 0,.sl 1 0 s.length 1 none]),(1,.ty 5 (s.map zq))],2⟩:=by
 refine Xi (rs:=[.tmp 4,.tmp 5]) [0,1,4,5] [] 1 [0] mixed (zh) (ztt) zos func186 rfl ntmps186 rfl Zk Zs Zs Zs Zs ?_;simp(disch:=first|assumption|(push_cast<;>omega)|rfl|omega)only[go_sem,ΔC_A,h0];refine⟨rfl,⟨Zo,Zo,zmD s⟩,rfl,[(4,.int .i64 s.length),(5,.nilI)],Sub.of [] rfl Zg ?_ Zd (fun b hb hw=>absurd (YaA.1 hb) (by simpa using hw)),rfl⟩;simp only[go_sem];exact zB (zaj s)
def writeB(l s:ZL)(hl:l.length≤1000000)(hs:s.length≤1000000)(h0:¬s.length=0):NCall prog 186 [.ptr 0 0,.str s] [.ty 206 [.ptr 0 0,.sl 1 0 l.length 1 none],.ty 5 (l.map zq)] [0,1] (.tup [.int .i64 s.length,.nilI]) ⟨[(0,.ty 206 [.ptr 0 0,.sl 2 0 (l.length+s.length) 1 none]),(2,.ty 5 ((l++s).map zq))],3⟩:=by
 refine Xi (rs:=[.tmp 4,.tmp 5]) [0,1,4,5] [] 2 [0,1] mixed (zh) (ztt) zos func186 rfl ntmps186 rfl Zk Zs Zs Zs Zs ?_;simp(disch:=first|assumption|(push_cast<;>omega)|rfl|omega)only[go_sem,ΔC_B,h0];refine⟨⟨Zs,Zo,Zo,zmD s⟩,rfl,rfl,[(4,.int .i64 s.length),(5,.nilI)],Sub.of [] rfl Zg ?_ Zd (fun b hb hw=>absurd hb (by match b with|0=>simp at hw|1=>simp at hw|b+2=>simp)),rfl⟩;simp only[go_sem];rw[Yp Zs,←Yax];exact zB (zaj _)
def writeE(l:ZL)(hl:l.length≤1000000):NCall prog 186 [.ptr 0 0,.str []] [.ty 206 [.ptr 0 0,.sl 1 0 l.length 1 none],.ty 5 (l.map zq)] [0,1] (.tup [.int .i64 0,.nilI]) ⟨[(0,.ty 206 [.ptr 0 0,.sl 1 0 l.length 1 none]),(1,.ty 5 (l.map zq))],2⟩:=by
 refine Xi (rs:=[.tmp 4,.tmp 5]) [0,1,4,5] [] 2 [0,1] mixed (zh) (ztt) zos func186 rfl ntmps186 rfl Zk Zs Zs Zs Zs ?_;simp(disch:=first|assumption|(push_cast<;>omega)|rfl|omega)only[go_sem,ΔC_B];refine⟨rfl,[(4,.int .i64 0),(5,.nilI)],Sub.of [] rfl Zg ?_ Zd (fun b hb hw=>absurd hb (by match b with|0=>simp at hw|1=>simp at hw|b+2=>simp)),rfl⟩;simp only[go_sem];exact zB (zaj l)
def stringB(l:ZL)(hl:l.length≤1000000)(h0:0<l.length):NCall prog 188 [.ptr 0 0] [.ty 206 [.ptr 0 0,.sl 1 0 l.length 1 none],.ty 5 (l.map zq)] [1] (.str l) ⟨[(0,.ty 206 [.ptr 0 0,.sl 1 0 l.length 1 none])],2⟩:=by
 refine Xi (rs:=[.tmp 2]) [0,2] [] 2 [1] mixed (zh) (zg) call188 func188 rfl ntmps188 rfl Zk Zs Zs Zs Zs ?_;have hu:=fun x=>zqV l h0 hl x prog rfl;simp(disch:=first|assumption|(push_cast<;>omega)|rfl|omega)only[go_sem,zgB,zji,zlg,hu];refine⟨rfl,AXk.intro Zk ?_⟩;simp(disch:=first|assumption|(push_cast<;>omega)|rfl|omega)only[go_sem];refine⟨[(2,.str l)],Sub.of [] rfl Zg Zg Zd (fun b hb hw=>?_),rfl⟩;match b,hb with
 |0,_=>rfl
 |1,_=>simp at hw
def WsR(args:ZA)(H:Hp)(r:AR):Prop:=∃b s,args=[.ptr b 0,.str s]∧s.length≤1000000∧(∀b x,H.get b=some x→b<H.next)∧
 ((H.get b=some bl0∧s≠[]∧r=⟨True,.tup [.int .i64 s.length,.nilI],(H.put b (bl1 b H.next s.length)).new (bly s),[b],[b]⟩)∨
  ∃c l,b≠c∧l.length≤1000000∧H.get b=some (bl1 b c l.length)∧H.get c=some (bly l)∧
   ((s≠[]∧r=⟨True,.tup [.int .i64 s.length,.nilI],((H.put b (bl1 b H.next (l.length+s.length))).kill c).new (bly (l++s)),[b,c],[b,c]⟩)∨
    (s=[]∧r=⟨True,.tup [.int .i64 0,.nilI],H,[b,c],[b,c]⟩)))
def wsR_ok:∀args H r,WsR args H r→HCall prog 186 args H r:=by
 rintro args H r ⟨b,s,rfl,hs,hk,h⟩;rcases h with⟨hb,h0,rfl⟩|⟨c,l,hne,hl,hb,hc,h⟩
 ·have tb:zu [b] H.next b=0:=by unfold zu;rw[Yi (hk b _ hb)];simp
  have tn:zu [b] H.next H.next=1:=by unfold zu;rw[Ye Zo];simp
  have hbn:=hk b _ hb;refine HCall.of (writeA s hs (fun e=>h0 (Yz e))) [b] _ (.tup [.int .i64 s.length,.nilI]) H ((H.put b (bl1 b H.next s.length)).new (bly s)) rfl Zs (zbQ (Yaz _) rfl (by simp[zO])) (fun i x hx=>?_) (.same (.tup (by simp[zaz,zgY]))) (by show H.next+1+1=H.next+2;omega) (fun b' x' hx'=>?_) (fun b' hb' hw=>?_)
  ·match i with
   |0=>cases hx;exact⟨b,_,rfl,hb,.ty (zB (by simp[zgX,zdC]))⟩
   |i+1=>simp at hx
  ·rw[Xe]at hx';split at hx'
   ·rename_i he;have he':b'=H.next:=he;subst he';cases hx';refine .inr ⟨.inr ⟨Yc _,YD _⟩,bly s,?_,zbG s⟩;rw[tn];rfl
   rw[Xd]at hx';split at hx'
   ·rename_i he;subst he;rw[hb]at hx';cases hx';refine .inr ⟨.inl Zs,bl1 0 1 s.length,?_,?_⟩
    ·rw[tb];rfl
    have:=zfc (π:=zu [b'] H.next) (N:=fun b=>b∈[b']∨(H.next≤b∧b<H.next+1)) (b:=b') (c:=H.next) (n:=s.length) (.inl Zs) (.inr ⟨Yc _,YD _⟩);rwa [tb,tn]at this
   rename_i he;exact .inl ⟨hk b' _ hx',by simpa using he,hx'⟩
  have h1:b'≠H.next:=Zo;rw[Xe,Ye (show ¬b'=(H.put b _).next from h1),Xd,Ye (by simpa using hw)]
 have tb:zu [b,c] H.next b=0:=by unfold zu;rw[Yi (hk b _ hb)];simp
 have tc:zu [b,c] H.next c=1:=by unfold zu;rw[Yi (hk c _ hc)];exact idx1 hne
 have tn:zu [b,c] H.next H.next=2:=by unfold zu;rw[Ye Zo];simp
 rcases h with⟨h0,rfl⟩|⟨rfl,rfl⟩
 ·refine HCall.of (writeB l s hl hs (fun e=>h0 (Yz e))) [b,c] _ (.tup [.int .i64 s.length,.nilI]) H (((H.put b (bl1 b H.next (l.length+s.length))).kill c).new (bly (l++s))) rfl (by simpa using hne) (zbQ (Yaz _) rfl (by simp[zO])) (fun i x hx=>?_) (.same (.tup (by simp[zaz,zgY]))) (by show H.next+1+2=H.next+3;omega) (fun b' x' hx'=>?_) (fun b' hb' hw=>?_)
  ·match i with
   |0=>cases hx;exact⟨b,_,rfl,hb,zfc (π:=fun i=>[b,c].getD i 0) (b:=0) (c:=1) (Yaz _) (YD _)⟩
   |1=>cases hx;exact⟨c,_,rfl,hc,zbG l⟩
   |i+2=>simp at hx
  ·rw[Xe]at hx';split at hx'
   ·rename_i he;have he':b'=H.next:=he;subst he';cases hx';refine .inr ⟨.inr ⟨Yc _,YD _⟩,bly (l++s),?_,zbG _⟩;rw[tn];rfl
   rw[Xh]at hx';split at hx'
   ·cases hx'
   rename_i hec;rw[Xd]at hx';split at hx'
   ·rename_i he;subst he;rw[hb]at hx';cases hx';refine .inr ⟨.inl Zs,bl1 0 2 (l.length+s.length),?_,?_⟩
    ·rw[tb];rfl
    have:=zfc (π:=zu [b',c] H.next) (N:=fun b=>b∈[b',c]∨(H.next≤b∧b<H.next+1)) (b:=b') (c:=H.next) (n:=l.length+s.length) (.inl Zs) (.inr ⟨Yc _,YD _⟩);rwa [tb,tn]at this
   rename_i he;exact .inl ⟨hk b' _ hx',by simp[he,hec],hx'⟩
  have h1:b'≠H.next:=Zo;have h2:b'≠b∧b'≠c:=by simpa using hw
  rw[Xe,Ye (show ¬b'=((H.put b _).kill c).next from h1),Xh,Ye h2.2,Xd,Ye h2.1]
 refine HCall.of (writeE l hl) [b,c] _ (.tup [.int .i64 0,.nilI]) H H rfl (by simpa using hne) (zbQ (Yaz _) rfl (by simp[zO])) (fun i x hx=>?_) (.same (.tup (by simp[zaz,zgY]))) rfl (fun b' x' hx'=>?_) (fun b' hb' hw=>rfl)
 ·match i with
  |0=>cases hx;exact⟨b,_,rfl,hb,zfc (π:=fun i=>[b,c].getD i 0) (b:=0) (c:=1) (Yaz _) (YD _)⟩
  |1=>cases hx;exact⟨c,_,rfl,hc,zbG l⟩
  |i+2=>simp at hx
 by_cases h1:b'=b
 ·subst h1;rw[hb]at hx';cases hx';refine .inr ⟨.inl Zs,bl1 0 1 l.length,?_,?_⟩
  ·rw[tb];rfl
  have:=zfc (π:=zu [b',c] H.next) (N:=fun b=>b∈[b',c]∨(H.next≤b∧b<H.next)) (b:=b') (c:=c) (n:=l.length) (.inl Zs) (.inl Zs);rwa [tb,tc]at this
 by_cases h2:b'=c
 ·subst h2;rw[hc]at hx';cases hx';refine .inr ⟨.inl Zs,bly l,?_,zbG l⟩;rw[tc];rfl
 exact .inl ⟨hk b' _ hx',by simp[h1,h2],hx'⟩
def zdT:∀ {l l':ZL},l.map zq=l'.map zq→l=l'
 |[],[],_=>rfl
 |[],_::_,h=>by simp at h
 |_::_,[],h=>by simp at h
 |a::l,b::l',h=>by
  simp only[Y7,Yt]at h;have h1:=zdT h.2;have h2:(a.toNat:Int)=(b.toNat:Int):=by have:=h.1;simpa[zq]using this
  have h3:a=b:=YbB.1 Zo;rw[h1,h3]
def zf2 {args:ZA}{H:Hp}{r r':AR}(h:WsR args H r)(h':WsR args H r'):r'=r:=by
 obtain⟨b,s,rfl,_,_,h⟩:=h;obtain⟨b',s',he,_,_,h'⟩:=h';simp only[Yt,V.ptr.injEq,V.str.injEq,Yad]at he;obtain⟨rfl,rfl⟩:=he;rcases h with⟨hb,h0,rfl⟩|⟨c,l,hne,hl,hb,hc,h⟩
 ·rcases h' with⟨hb',h0',rfl⟩|⟨c',l',hne',hl',hb',hc',h'⟩
  ·rfl
  rw[hb]at hb';simp[bl0,bl1]at hb'
 rcases h' with⟨hb',h0',rfl⟩|⟨c',l',hne',hl',hb',hc',h'⟩
 ·rw[hb]at hb';simp[bl0,bl1]at hb'
 rw[hb]at hb';simp only[bl1,Yx,Blk.ty.injEq,Yt,V.sl.injEq,Yag,Yad]at hb';obtain⟨rfl,_⟩:=hb';rw[hc]at hc';simp only[bly,Yx,Blk.ty.injEq,Yag]at hc';obtain rfl:=zdT hc';rcases h with⟨h0,rfl⟩|⟨h0,rfl⟩
 ·rcases h' with⟨_,rfl⟩|⟨h1,rfl⟩
  ·rfl
  exact absurd h1 h0
 rcases h' with⟨h1,rfl⟩|⟨_,rfl⟩
 ·exact absurd h0 h1
 rfl
def StR(args:ZA)(H:Hp)(r:AR):Prop:=∃b c l,args=[.ptr b 0]∧(∀b x,H.get b=some x→b<H.next)∧b≠c∧l.length≤1000000∧0<l.length∧H.get b=some (bl1 b c l.length)∧H.get c=some (bly l)∧
 r=⟨True,.str l,H.kill c,[b,c],[c]⟩
def stR_ok:∀args H r,StR args H r→HCall prog 188 args H r:=by
 rintro args H r ⟨b,c,l,rfl,hk,hne,hl,h0,hb,hc,rfl⟩;have tb:zu [b,c] H.next b=0:=by unfold zu;rw[Yi (hk b _ hb)];simp
 have tc:zu [b,c] H.next c=1:=by unfold zu;rw[Yi (hk c _ hc)];exact idx1 hne
 refine HCall.of (stringB l hl h0) [b,c] _ (.str l) H (H.kill c) rfl (by simpa using hne) (zbQ (Yaz _) rfl Zs) (fun i x hx=>?_) (.same (.str _)) rfl (fun b' x' hx'=>?_) (fun b' hb' hw=>?_)
 ·match i with
  |0=>cases hx;exact⟨b,_,rfl,hb,zfc (π:=fun i=>[b,c].getD i 0) (b:=0) (c:=1) (Yaz _) (YD _)⟩
  |1=>cases hx;exact⟨c,_,rfl,hc,zbG l⟩
  |i+2=>simp at hx
 ·rw[Xh]at hx';split at hx'
  ·cases hx'
  rename_i hec;by_cases h1:b'=b
  ·subst h1;rw[hb]at hx';cases hx';refine .inr ⟨.inl Zs,bl1 0 1 l.length,?_,?_⟩
   ·rw[tb];rfl
   have:=zfc (π:=zu [b',c] H.next) (N:=fun b=>b∈[b',c]∨(H.next≤b∧b<H.next)) (b:=b') (c:=c) (n:=l.length) (.inl Zs) (.inl Zs);rwa [tb,tc]at this
  exact .inl ⟨hk b' _ hx',by simp[h1,hec],hx'⟩
 have h2:b'≠c:=by simpa using hw
 rw[Xh,Ye h2]
def stR_uniq {args:ZA}{H:Hp}{r r':AR}(h:StR args H r)(h':StR args H r'):r'=r:=by obtain⟨b,c,l,rfl,_,_,_,_,hb,hc,rfl⟩:=h;obtain⟨b',c',l',he,_,_,_,_,hb',hc',rfl⟩:=h';simp only[Yt,V.ptr.injEq,Yad]at he;subst he;rw[hb]at hb';simp only[bl1,Yx,Blk.ty.injEq,Yt,V.sl.injEq,Yag,Yad]at hb';obtain⟨rfl,_⟩:=hb';rw[hc]at hc';simp only[bly,Yx,Blk.ty.injEq,Yag]at hc';obtain rfl:=zdT hc';rfl
def ΔB:FuncId→ZA→Hp→Option AR:=zaQ 186 (conD WsR) (zaQ 188 (conD StR) noΔ)
def ztu:zay prog ΔB:=zK (zT wsR_ok) (zK (zT stR_ok) zg)
def ΔB_0 {s:ZL}(hs:s.length≤1000000)(h0:s≠[]):ΔB 186 [.ptr 0 0,.str s] ⟨[(0,bl0)],1⟩=some ⟨True,.tup [.int .i64 s.length,.nilI],⟨[(1,bly s),(0,bl1 0 1 s.length)],2⟩,[0],[0]⟩:=by have hr:WsR [.ptr 0 0,.str s] ⟨[(0,bl0)],1⟩ ⟨True,.tup [.int .i64 s.length,.nilI],⟨[(1,bly s),(0,bl1 0 1 s.length)],2⟩,[0],[0]⟩:=⟨0,s,rfl,hs,zaZ rfl,.inl ⟨rfl,h0,rfl⟩⟩;exact zan hr fun _ h'=>zf2 hr h'
def ΔB_1 {l s:ZL}(hl:l.length≤1000000)(hs:s.length≤1000000)(h0:s≠[]):ΔB 186 [.ptr 0 0,.str s] ⟨[(0,bl1 0 1 l.length),(1,bly l)],2⟩=some ⟨True,.tup [.int .i64 s.length,.nilI],⟨[(2,bly (l++s)),(0,bl1 0 2 (l.length+s.length))],3⟩,[0,1],[0,1]⟩:=by have hr:WsR [.ptr 0 0,.str s] ⟨[(0,bl1 0 1 l.length),(1,bly l)],2⟩ ⟨True,.tup [.int .i64 s.length,.nilI],⟨[(2,bly (l++s)),(0,bl1 0 2 (l.length+s.length))],3⟩,[0,1],[0,1]⟩:=⟨0,s,rfl,hs,zaZ rfl,.inr ⟨1,l,Zd,hl,rfl,rfl,.inl ⟨h0,rfl⟩⟩⟩;exact zan hr fun _ h'=>zf2 hr h'
def ΔB_3 {l s:ZL}{n:Nat}(hn:n=l.length)(hl:l.length≤1000000)(hs:s.length≤1000000)(h0:s≠[]):ΔB 186 [.ptr 0 0,.str s] ⟨[(2,bly l),(0,bl1 0 2 n)],3⟩=some ⟨True,.tup [.int .i64 s.length,.nilI],⟨[(3,bly (l++s)),(0,bl1 0 3 (l.length+s.length))],4⟩,[0,2],[0,2]⟩:=by subst hn;have hr:WsR [.ptr 0 0,.str s] ⟨[(2,bly l),(0,bl1 0 2 l.length)],3⟩ ⟨True,.tup [.int .i64 s.length,.nilI],⟨[(3,bly (l++s)),(0,bl1 0 3 (l.length+s.length))],4⟩,[0,2],[0,2]⟩:=⟨0,s,rfl,hs,zaZ rfl,.inr ⟨2,l,Zd,hl,rfl,rfl,.inl ⟨h0,rfl⟩⟩⟩;exact zan hr fun _ h'=>zf2 hr h'
def ΔB_e {l:ZL}(hl:l.length≤1000000):ΔB 186 [.ptr 0 0,.str []] ⟨[(0,bl1 0 1 l.length),(1,bly l)],2⟩=some ⟨True,.tup [.int .i64 0,.nilI],⟨[(0,bl1 0 1 l.length),(1,bly l)],2⟩,[0,1],[0,1]⟩:=by have hr:WsR [.ptr 0 0,.str []] ⟨[(0,bl1 0 1 l.length),(1,bly l)],2⟩ ⟨True,.tup [.int .i64 0,.nilI],⟨[(0,bl1 0 1 l.length),(1,bly l)],2⟩,[0,1],[0,1]⟩:=⟨0,[],rfl,Zs,zaZ rfl,.inr ⟨1,l,Zd,hl,rfl,rfl,.inr ⟨rfl,rfl⟩⟩⟩;exact zan hr fun _ h'=>zf2 hr h'
def ΔB_s {l:ZL}(hl:l.length≤1000000)(h0:0<l.length):ΔB 188 [.ptr 0 0] ⟨[(0,bl1 0 1 l.length),(1,bly l)],2⟩=some ⟨True,.str l,⟨[(0,bl1 0 1 l.length)],2⟩,[0,1],[1]⟩:=by have hr:StR [.ptr 0 0] ⟨[(0,bl1 0 1 l.length),(1,bly l)],2⟩ ⟨True,.str l,⟨[(0,bl1 0 1 l.length)],2⟩,[0,1],[1]⟩:=⟨0,1,l,rfl,zaZ rfl,Zd,hl,h0,rfl,rfl,rfl⟩;exact zan hr fun _ h'=>stR_uniq hr h'
end Go.Proofs
