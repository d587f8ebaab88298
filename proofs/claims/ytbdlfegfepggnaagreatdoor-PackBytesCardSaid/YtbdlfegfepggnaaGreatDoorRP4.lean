/- The reference's pack: a weight put into its place; the weights of a machine. -/
import Derived.Test.YtbdlfegfepggnaaGreatDoorPBits
set_option linter.all false
set_option maxHeartbeats 16000000
set_option maxRecDepth 100000
noncomputable section
namespace Go.Proofs
open Tryz Go.Ab Go.Pl Go.Cnt
def zeV {P:Program}{C:Cfg}{env:Env}{H:Hp}(t u:TypeId)(x y:Operand):step1 C P env (.call { callee:=.builtin .copy,args:=⟨[x,y]⟩,argTypes:=⟨[t,u]⟩ }) H=mkSR false ((ev env x).cond∧(ev env y).cond) (XR.ar H (zfl P t u (ev env x).val (ev env y).val H)) H:=zaa rfl (by simp[Op.operands,Call.operands,needs]) rfl
def xcp_move(b o n m:Nat)(k k':Option Nat)(cs:ZA)(H:Hp)(hb:H.get b=some (.cells cs))(h1:m=n+1)(hn:0<n)(h2:o+1+n=cs.length)(h3:cs.all V.one=true):zfl prog 25 25 (.sl b (o+1) n 1 k) (.sl b o m 1 k') H=some ⟨.int .i64 (n:Nat),H.put b (.cells (putCells cs (o+1) ((cs.drop o).take n))),[b,b],[b]⟩:=by
 subst h1;have e1:zdq prog 25=some 9:=Zk;have e2:Ab.sizeT prog 9=some 1:=Zk;have e3:zak prog H 25 (.sl b o (n+1) 1 k') 1=some ((cs.drop o).take (n+1),n+1,[b]):=by rw[zwq 25 1 b o (n+1) k' Zk,hb,zkv,Yag,Yi Zo]
 have e4:Nat.beq (min (n+1) n) 0=false:=by rw[Nat.min_eq_right Zo];cases n with|zero=>omega|succ n=>rfl
 unfold zfl;simp only[e1,e2,e3,e4,hb];have e5:min (n+1) n=n:=Zo;have e7:min n (n+1)=n:=Zo;simp only[e5,Yag,Ybu,e7];have e6:decide (True∧((cs.drop o).take n).all V.one=true∧o+1+n≤cs.length)=true:=Yf ⟨trivial,Yo.2 fun x hx=>Yo.1 h3 x (Ybi (Ya9 hx)),Zo⟩;rw[e6]
def xcp_none(b o m:Nat)(k k':Option Nat)(cs:ZA)(H:Hp)(hb:H.get b=some (.cells cs))(h2:o+m≤cs.length):zfl prog 25 25 (.sl b (o+1) 0 1 k) (.sl b o m 1 k') H=some ⟨.int .i64 (0:Nat),H,[b],[]⟩:=by
 have e1:zdq prog 25=some 9:=Zk;have e2:Ab.sizeT prog 9=some 1:=Zk;have e3:zak prog H 25 (.sl b o m 1 k') 1=some ((cs.drop o).take m,m,[b]):=by rw[zwq 25 1 b o m k' Zk,hb,zkv,Yag,Yi h2]
 have e4:Nat.beq (min m 0) 0=true:=by rw[Nat.min_zero];rfl
 unfold zfl;simp only[e1,e2,e3,e4]
def strs_one(l:List Str):(strs l).all V.one=true:=by unfold strs;rw[List.all_map,Yo];intro x _;rfl
def put_strs(A B:List Str)(o:Nat)(h:o+B.length≤A.length):putCells (strs A) o (strs B)=strs (A.take o++B++A.drop (o+B.length)):=by
 rcases B with _|⟨x,_|⟨y,B⟩⟩
 ·rw[show strs []=[]from rfl,zgw];simp
 ·show (strs A).set o (.str x)=_;rw[zkx];congr 1;have ho:o<A.length:=h;rw[YR];exact List.set_eq_take_append_cons_drop .. |>.trans (by rw[Yi ho];rfl)
 show putCells (strs A) o (.str x::.str y::strs B)=_;rw[zfv];simp[strs]
def mov_strs(l:List Str)(i n:Nat)(h:l.length=i+n)(hn:0<n):putCells (strs (l++[[]])) (i+1) (strs (List.take n (List.drop i (l++[[]]))))=strs (l.take (i+1)++l.drop i):=by
 have e1:List.take n (List.drop i (l++[[]]))=l.drop i:=by rw[List.drop_append_of_le_length Zo,List.take_append_of_le_length (by simp;omega),Yl (by simp;omega)]
 have e2:(l++[[]]).drop (i+1+(l.drop i).length)=[]:=YbX (by simp;omega);rw[e1,put_strs (l++[[]]) (l.drop i) (i+1) (by simp;omega),List.take_append_of_le_length Zo,e2,Y7]
def rset_mid(l:List Str)(i n:Nat)(s:Str)(h:l.length=i+n)(hn:0<n):(strs (l.take (i+1)++l.drop i)).set i (.str s)=strs (l.take i++s::l.drop i):=by
 rw[zkx];congr 1;rw[YbL Zo,YR,List.set_append_right _ _ (by simp;omega)];have:i-(l.take i).length=0:=by simp;omega
 rw[this];rfl
def rins_N(l:List Str)(s:Str)(hl:l.length≤1000000)(hi:IncS l):NCall prog 68 [.sl 0 0 l.length 1 none,.str s] [.cells (strs l)] [0] (.sl 1 0 (insS l s).length 1 none) ⟨[(1,.cells (strs (insS l s)))],2⟩:=by
 refine Xi (rs:=[.tmp 4]) [0,1,4,5,17,31] [] 1 [0] mixed (zh) (zf) call68 func68 rfl ntmps68 rfl Zk Zs Zs Zs Zs ?_;simp(disch:=try exact Zq)only[go_sem];refine AXs.loop mixed (zh) (zf) (fun i:Nat=>[(0,.sl 1 0 l.length 1 none),(1,.str s),(5,.int .i64 i)]) (fun _=>⟨[(1,.cells (strs l))],2⟩)
  (fun i=>i≤l.length∧∀j,j<i→Op.bytesLess (l.getD j []) s=true) (fun i=>l.length-i) 0 Zk
  ⟨Yk _,fun j hj=>Zo⟩ (Xh [(1,0)] rfl ?_ ?_ Zd ?_) ?_
 ·simp only[go_sem]
 ·simp only[go_sem]
 ·intro b hb hw;exact absurd hb (by match b with|0=>simp at hw|b+1=>simp)
 rintro i ⟨h1,h2⟩;by_cases hil:i<l.length
 ·have e1:decide ((i:Int)<(l.length:Int))=true:=Yf Zo;cases hb:Op.bytesLess (l.getD i []) s with
  |true=>
   have ei:(i:Int)+1=((i+1:Nat):Int):=Zo;have hbL:ltS (l.getD i []) s=true:=hb;simp(disch:=try exact Zq)only[go_sem,e1,hbL,ei];refine⟨⟨Zo,Zo⟩,Zo,zi (i+1) ⟨Zo,fun j hj=>?_⟩ (by show l.length-(i+1)<l.length-i;omega) (Xh [] rfl Zg Zg Zd ?_)⟩
   ·by_cases hji:j<i
    ·exact h2 j hji
    obtain rfl:j=i:=Zo;exact hb
   intro b hb hw;exact absurd hb (by match b with|0=>simp at hw|b+1=>simp)
  |false=>
   have hpl:zkL l s i:=⟨h1,h2,fun _=>hb⟩;have hm:=ztS hi hpl;obtain⟨i1,i2⟩:=zpH l s i hpl;have hbL:ltS (l.getD i []) s=false:=hb;simp(disch:=try exact Zq)only[go_sem,e1,hbL];refine⟨⟨Zo,Zo⟩,Zo,?_⟩;refine AXa.go mixed (zh) (zf) Zk ?_;by_cases hse:l.getD i []=s
   ·have es:decide (l.getD i []=s)=true:=Yf hse;rw[i1 ⟨hil,hse⟩];simp(disch:=try exact Zq)only[go_sem,e1,es];refine⟨⟨Zo,Zo⟩,Zo,[(4,.sl 1 0 l.length 1 none)],Xh [(1,1)] rfl (by simp(disch:=try exact Zq)only[go_sem]) (by simp(disch:=try exact Zq)only[go_sem]) Zd ?_,rfl⟩;intro b hb hw;exact absurd hb (by match b with|0=>simp at hw|b+1=>simp)
   have es:decide (l.getD i []=s)=false:=Ye hse;rw[i2 fun h=>hse h.2];obtain⟨n,hn,hn0⟩:∃n,l.length=i+n∧0<n:=⟨l.length-i,Zo,Zo⟩;have eN1:l.length+1-(i+1)=n:=Zo;have eN2:l.length+1-i=n+1:=Zo;have eC:=fun H hb=>xcp_move 3 i n (n+1) none none (strs (l++[[]])) H hb rfl hn0 (by rw[zO,Yd,YZ];omega) (strs_one _);have eP:=mov_strs l i n hn hn0;have eS:=rset_mid l i n s hn hn0;have eZ:(l.take i++s::l.drop i).length=l.length+1:=by simp;omega
   rw[eZ];simp(disch:=try exact Zp)only[go_sem,e1,es,Ym,eN1,eN2,zeV,eC,eP,eS];refine⟨⟨Zo,Zo⟩,hil,⟨Zo,Zo⟩,⟨Zo,Zo,Zo⟩,⟨Zo,Zo,Zo⟩,AXk.intro Zk ?_⟩;simp(disch:=try exact Zp)only[go_sem,e1,es,Ym,eN1,eN2,zeV,eC,eP,eS];refine⟨⟨Zo,Zo⟩,by simp;omega,[(4,.sl 1 0 (l.length+1) 1 none)],Xh [(1,3)] rfl (by simp(disch:=try exact Zq)only[go_sem]) (by simp(disch:=try exact Zq)only[go_sem]) Zd ?_,rfl⟩;intro b hb hw;exact absurd hb (by match b with|0=>simp at hw|b+1=>simp)
 have e1:decide ((i:Int)<(l.length:Int))=false:=Ye Zo;obtain rfl:i=l.length:=Zo;have hpl:zkL l s l.length:=⟨h1,h2,fun h=>absurd h (Nat.lt_irrefl _)⟩;obtain⟨i1,i2⟩:=zpH l s l.length hpl;rw[i2 fun h=>absurd h.1 (Nat.lt_irrefl _),Ym,List.drop_length];have eN1:l.length+1-(l.length+1)=0:=Zo;have eN2:l.length+1-l.length=1:=Zo;have eC:=fun H hb=>xcp_none 3 l.length 1 none none (strs (l++[[]])) H hb (by rw[zO,Yd,YZ];omega);have eS:(strs (l++[[]])).set l.length (.str s)=strs (l++[s]):=by rw[zkx];simp
 have eZ:(l++[s]).length=l.length+1:=Zs;rw[eZ];simp(disch:=try exact Zq)only[go_sem,e1];refine AXa.go mixed (zh) (zf) Zk ?_;simp(disch:=try exact Zp)only[go_sem,e1,Ym,eN1,eN2,zeV,eC,eS];refine⟨⟨Zo,Zo⟩,⟨Zo,Zo,Zo⟩,⟨Zo,Zo,Zo⟩,⟨Zo,Zo⟩,Zs,[(4,.sl 1 0 (l.length+1) 1 none)],Xh [(1,3)] rfl (by simp(disch:=try exact Zq)only[go_sem]) (by simp(disch:=try exact Zq)only[go_sem]) Zd ?_,rfl⟩;intro b hb hw;exact absurd hb (by match b with|0=>simp at hw|b+1=>simp)
attribute [local go_sem] zaW zaj
def InR2(args:ZA)(H:Hp)(r:AR):Prop:=
 ∃b l s,args=[.sl b 0 l.length 1 none,.str s]∧(∀b x,H.get b=some x→b<H.next)∧H.get b=some (.cells (strs l))∧l.length≤1000000∧IncS l∧
  r=⟨True,.sl H.next 0 (insS l s).length 1 none,(H.kill b).new (.cells (strs (insS l s))),[b],[b]⟩
def zyJ:∀args H r,InR2 args H r→HCall prog 68 args H r:=by rintro args H r ⟨b,l,s,rfl,hk,hb,hl,hi,rfl⟩;exact XC (rins_N l s hl hi) (zaN _) (zaN _) b _ H (slArgs b l.length none s) hb hk
def zpJ(b n:Nat)(l:List Str)(s:Str)(bs:ZH)(nx:Nat)(hb:zL bs b=some (.cells (strs l)))(hn:n=l.length)(hl:l.length≤1000000)(hi:IncS l)(hk:((keysB bs).all fun b=>decide (b<nx))=true):conD InR2 [.sl b 0 n 1 none,.str s] ⟨bs,nx⟩=some ⟨True,.sl nx 0 (insS l s).length 1 none,((⟨bs,nx⟩:Hp).kill b).new (.cells (strs (insS l s))),[b],[b]⟩:=by
 subst hn;have hR:InR2 [.sl b 0 l.length 1 none,.str s] ⟨bs,nx⟩ ⟨True,.sl nx 0 (insS l s).length 1 none,((⟨bs,nx⟩:Hp).kill b).new (.cells (strs (insS l s))),[b],[b]⟩:=⟨b,l,s,rfl,zaX hk,(zF bs b).trans hb,hl,hi,rfl⟩;refine zat hR ?_;rintro r' ⟨b',l',s',e,_,hb',_,_,rfl⟩;simp only[Yw,V.sl.injEq,V.str.injEq,Yaf,Yap]at e;obtain⟨⟨rfl,_⟩,rfl⟩:=e;rw[show (⟨bs,nx⟩:Hp).get b=some (.cells (strs l))from(zF bs b).trans hb]at hb';have:strs l=strs l':=by simpa using hb'
 rw[za1 this]
def zdL:∀(X l:List Str),(X.foldl insS l).length≤l.length+X.length
 |[],l=>Yc _
 |a::X,l=>by have h1:=zdL X (insS l a);have h2:=zlo l a;rw[YbJ,Yn];omega
def wtsX(q:List Sta)(i:Nat):List Str:=(q.take i).flatMap wtsS
def zvS(q:List Sta)(i:Nat)(h:i<q.length):wtsX q (i+1)=wtsX q i++wtsS (nthQ q i):=by unfold wtsX;rw[show q.take (i+1)=q.take i++[nthQ q i]from staR.take_nth q i h,List.flatMap_append];simp
def zvT(q:List Sta)(i:Nat):(wtsX q i).length≤(q.flatMap wtsS).length:=by
 unfold wtsX;have:q.flatMap wtsS=(q.take i).flatMap wtsS++(q.drop i).flatMap wtsS:=by rw[←List.flatMap_append,Yae]
 rw[this];simp
def zoU(m:Mach)(hm:(wtsM m).length≤500000)(hq:m.q.length≤500000):PCall prog 37 [zU m] (.ret (.fs (strs (wts m)) (wts m).length)):=by
 have hfin:=zvR m;obtain⟨k,st,ld,q⟩:=m;have hfin:(q.flatMap wtsS).foldl insS [ld]=wts ⟨k,st,ld,q⟩:=hfin;have hm:1+(q.flatMap wtsS).length≤500000:=by rw[Nat.add_comm];exact hm
 have hq:q.length≤500000:=hq;rw[←hfin];unfold zU;dsimp only;have hΔ:zaP prog (za8 68 (conD InR2) noΔ):=zJ (zV zyJ) zf;refine PCall.walk (rs:=[.tmp 2]) [0,1,2,3,4,5,13,22,39] [] mixed (zh) (zJ (zV zyJ) zf) call37 func37 rfl ntmps37 rfl Zk Zs (by simp[push_cast,zaj]) ?_;simp(disch:=try exact Zq)only[go_sem];refine AXs.loop mixed (zh) (hΔ) (ι:=Nat×List Str) (fun i=>[(4,.int .i64 i.1),(3,.sl 1 0 i.2.length 1 none),(1,.ptr 0 0)]) (fun i=>⟨[(1,.cells (strs i.2)),(0,.cells [.int .i64 k,.int .i64 st,.str ld,.fs (stas q) q.length])],2⟩) (fun i=>i.1≤q.length∧i.2=(wtsX q i.1).foldl insS [ld]) (fun i=>q.length-i.1) (0,[ld]) Zk ⟨Yk _,rfl⟩ (Xa [] rfl rfl ?_ ?_) ?_
 ·simp only[go_sem]
 ·simp only[go_sem];rfl
 rintro⟨i,L⟩ ⟨g1,g2⟩;dsimp only at g1 g2 ⊢;have hLs:=zcL (wtsX q i) [ld] (List.pairwise_singleton _ _);have hLl:=zdL (wtsX q i) [ld];have hXl:=zvT q i;rw[←g2]at hLs hLl;have hLi:=hLs.1;clear hLs;rw[YZ]at hLl;by_cases hi:i<q.length
 ·have d0:decide ((i:Int)<q.length)=true:=Yf Zo;have at1:=zbU q i hi;have hsu:=zvS q i hi;have hX2:=zvT q (i+1);have ei:(i:Int)+1=((i+1:Nat):Int):=Zo;obtain⟨s,hs⟩:∃s,s=nthQ q i:=⟨_,rfl⟩;rw[←hs]at at1 hsu;obtain⟨F,A⟩:=s;dsimp only at at1;have atS:(stas q).drop (i*2)=.str F::.fs (arcs A) A.length::stas (q.drop (i+1)):=at1;by_cases hf:F=[]
  ·have d1:decide (F=[])=true:=by simp[hf]
   have hBi:IncS (L):=hLi;have hBl:(L).length≤L.length+0:=by first|exact Yc _|exact zlo L F
   have hall:(wtsX q (i+1)).foldl insS [ld]=(wtsA A).foldl insS (L):=by rw[hsu,List.foldl_append,←g2,wtsS];simp[hf]
   have hcnt:(wtsX q (i+1)).length=(wtsX q i).length+0+A.length:=by rw[hsu,Yd,wtsS,Yd,wtsA,Y5];simp[hf];try omega
   simp(disch:=try exact Zq)only[go_sem,d0,at1,d1];refine⟨⟨Zo,Zo⟩,?_⟩;refine AXs.loop mixed (zh) (hΔ) (ι:=Nat×List Str) (fun j=>[(5,.int .i64 j.1),(4,.int .i64 i),(3,.sl 1 0 j.2.length 1 none),(1,.ptr 0 0)]) (fun j=>⟨[(1,.cells (strs j.2)),(0,.cells [.int .i64 k,.int .i64 st,.str ld,.fs (stas q) q.length])],2⟩) (fun j=>j.1≤A.length∧j.2=(wtsA (A.take j.1)).foldl insS (L)) (fun j=>A.length-j.1) (0,L) Zk ⟨Yk _,rfl⟩ (Xa [] rfl rfl ?_ ?_) ?_
   ·simp only[go_sem]
   ·simp only[go_sem]
   rintro⟨j,M⟩ ⟨p1,p2⟩;dsimp only at p1 p2 ⊢;have hMi:=(zcL (wtsA (A.take j)) (L) hBi).1;have hMl:=zdL (wtsA (A.take j)) (L);rw[←p2]at hMi hMl;rw[wtsA,Y5,Yx]at hMl;by_cases hj:j<A.length
   ·have d2:decide ((j:Int)<A.length)=true:=Yf Zo;have at2:=zbL A j hj;have ej:(j:Int)+1=((j+1:Nat):Int):=Zo;have hM2:insS M (nthA A j).w=(wtsA (A.take (j+1))).foldl insS (L):=by rw[p2,show A.take (j+1)=A.take j++[nthA A j]from arcR.take_nth A j hj,wtsA,wtsA,YV,List.foldl_append];rfl
    simp(disch:=try exact Zp)only[go_sem,atS,d2,at2,zpJ,ej];refine⟨⟨Zo,Zo⟩,Zo,⟨Zo,Zo⟩,Zo,⟨Zo,Zo⟩,zi (j+1,insS M (nthA A j).w) ⟨hj,hM2⟩ (by show A.length-(j+1)<A.length-j;omega) (Xa [(1,2)] rfl rfl Zg Zg)⟩
   obtain rfl:j=A.length:=Zo;rw[Ym,←hall]at p2;have d2:decide ((A.length:Int)<A.length)=false:=Ye Zo;simp(disch:=try exact Zq)only[go_sem,atS,d2];refine⟨⟨Zo,Zo⟩,Zo,?_⟩;refine AXa.go mixed (zh) (hΔ) Zk ?_;simp(disch:=try exact Zq)only[go_sem,ei];exact zi (i+1,M) ⟨hi,p2⟩ (by show q.length-(i+1)<q.length-i;omega) (Xa [] rfl rfl Zg Zg)
  have d1:decide (F=[])=false:=by simp[hf]
  have hBi:IncS (insS L F):=zlp hLi F;have hBl:(insS L F).length≤L.length+1:=by first|exact Yc _|exact zlo L F
  have hall:(wtsX q (i+1)).foldl insS [ld]=(wtsA A).foldl insS (insS L F):=by rw[hsu,List.foldl_append,←g2,wtsS];simp[hf]
  have hcnt:(wtsX q (i+1)).length=(wtsX q i).length+1+A.length:=by rw[hsu,Yd,wtsS,Yd,wtsA,Y5];simp[hf];try omega
  simp(disch:=try exact Zp)only[go_sem,d0,at1,d1,zpJ];refine⟨⟨Zo,Zo⟩,⟨Zo,Zo⟩,?_⟩;refine AXs.loop mixed (zh) (hΔ) (ι:=Nat×List Str) (fun j=>[(5,.int .i64 j.1),(4,.int .i64 i),(3,.sl 1 0 j.2.length 1 none),(1,.ptr 0 0)]) (fun j=>⟨[(1,.cells (strs j.2)),(0,.cells [.int .i64 k,.int .i64 st,.str ld,.fs (stas q) q.length])],2⟩) (fun j=>j.1≤A.length∧j.2=(wtsA (A.take j.1)).foldl insS (insS L F)) (fun j=>A.length-j.1) (0,insS L F) Zk ⟨Yk _,rfl⟩ (Xa [(1,2)] rfl rfl ?_ ?_) ?_
  ·simp only[go_sem]
  ·simp only[go_sem]
  rintro⟨j,M⟩ ⟨p1,p2⟩;dsimp only at p1 p2 ⊢;have hMi:=(zcL (wtsA (A.take j)) (insS L F) hBi).1;have hMl:=zdL (wtsA (A.take j)) (insS L F);rw[←p2]at hMi hMl;rw[wtsA,Y5,Yx]at hMl;by_cases hj:j<A.length
  ·have d2:decide ((j:Int)<A.length)=true:=Yf Zo;have at2:=zbL A j hj;have ej:(j:Int)+1=((j+1:Nat):Int):=Zo;have hM2:insS M (nthA A j).w=(wtsA (A.take (j+1))).foldl insS (insS L F):=by rw[p2,show A.take (j+1)=A.take j++[nthA A j]from arcR.take_nth A j hj,wtsA,wtsA,YV,List.foldl_append];rfl
   simp(disch:=try exact Zp)only[go_sem,atS,d2,at2,zpJ,ej];refine⟨⟨Zo,Zo⟩,Zo,⟨Zo,Zo⟩,Zo,⟨Zo,Zo⟩,zi (j+1,insS M (nthA A j).w) ⟨hj,hM2⟩ (by show A.length-(j+1)<A.length-j;omega) (Xa [(1,2)] rfl rfl Zg Zg)⟩
  obtain rfl:j=A.length:=Zo;rw[Ym,←hall]at p2;have d2:decide ((A.length:Int)<A.length)=false:=Ye Zo;simp(disch:=try exact Zq)only[go_sem,atS,d2];refine⟨⟨Zo,Zo⟩,Zo,?_⟩;refine AXa.go mixed (zh) (hΔ) Zk ?_;simp(disch:=try exact Zq)only[go_sem,ei];exact zi (i+1,M) ⟨hi,p2⟩ (by show q.length-(i+1)<q.length-i;omega) (Xa [] rfl rfl Zg Zg)
 obtain rfl:i=q.length:=Zo;have d0:decide ((q.length:Int)<q.length)=false:=Ye Zo;have hE:wtsX q q.length=q.flatMap wtsS:=by unfold wtsX;rw[Ym]
 rw[hE]at g2;rw[←g2];simp(disch:=try exact Zq)only[go_sem,d0];refine AXa.go mixed (zh) (hΔ) Zk ?_;simp(disch:=try exact Zq)only[go_sem];exact Xt (cs:=strs L) rfl (by simp[zO]) (by simp[zfr]) (zaN _)
def cRWts:ZV:=zC (fun m:Mach=>[zU m]) (fun m=>(wtsM m).length≤500000∧m.q.length≤500000) fun m=>.ret (.fs (strs (wts m)) (wts m).length)
def cRWts_eq(m:Mach)(h:(wtsM m).length≤500000)(h2:m.q.length≤500000):cRWts [zU m]=some (.ret (.fs (strs (wts m)) (wts m).length)):=zo (pat:=fun m:Mach=>[zU m]) (fun x y h=>zbD (by simpa using h)) m ⟨h,h2⟩
def cRWts_ok:ZC cRWts 37:=zn fun m h=>zoU m h.1 h.2
attribute [local go_sem] zbJ zaW
def rowV(l:ZL):V:=.fs (l.map zt) l.length
def zau(b k:Nat)(l:ZL)(n z:Int)(bs:ZH)(nx:Nat)(hb:zL bs b=some (bly l))(hk':k=l.length)(h:l≠[])(hl:l.length≤90000000)(hn:0≤n∧n<1152921504606846976)(hz:0≤z∧z≤60)(hk:((keysB bs).all fun b=>decide (b<nx))=true):Δr0 42 [.sl b 0 k 1 none,.int .i64 n,.int .i64 z] ⟨bs,nx⟩=some ⟨True,.sl nx 0 (l++bitF z.toNat n.toNat).length 1 none,((⟨bs,nx⟩:Hp).kill b).new (bly (l++bitF z.toNat n.toNat)),[b],[b]⟩:=by obtain⟨m,rfl⟩:∃m:Nat,n=m:=⟨n.toNat,Zo⟩;obtain⟨q,rfl⟩:∃m:Nat,z=m:=⟨z.toNat,Zo⟩;exact zqJ b k l m q bs nx hb hk' h hl Zo Zo hk
def zac(n:Int)(bs:ZH)(nx:Nat)(hn:0≤n∧n<1152921504606846976)(hk:((keysB bs).all fun b=>decide (b<nx))=true):Δr0 42 [.nilS,.int .i64 n,.int .i64 1] ⟨bs,nx⟩=some ⟨True,.sl nx 0 1 1 none,(⟨bs,nx⟩:Hp).new (bly (bitF 1 n.toNat)),[],[]⟩:=by obtain⟨m,rfl⟩:∃m:Nat,n=m:=⟨n.toNat,Zo⟩;exact zl7 m 1 bs nx Zo Zo Zo hk
def zb2(n:Int)(h0:0≤n)(h:n<4611686018427387904):cRWid [.int .i64 n]=some (.ret (.int .i64 (widI n:Nat))):=by obtain⟨m,rfl⟩:∃m:Nat,n=m:=⟨n.toNat,Zo⟩;exact zr9 m Zo
def zwx(nm st ar:Nat)(w:List Str)(e:Ens)(s:Sta)(hx:LayOK ⟨nm,w.length,st,ar⟩ e)(h1:1≤w.length)(h2:1≤st)(hs:s.a.length≤100000)(ha:∀a∈s.a,zgN a)(hv:∀a∈wtsS s,a∈w∧valS e a=(w.idxOf a:Int)):PCall prog 38 [staV s,.fs (strs w) w.length,.int .i64 nm,.int .i64 st,.int .i64 ar] (.ret (rowV (zaE (staP ⟨nm,w.length,st,ar⟩ e s)))):=by
 have hn:nm≤1000000:=hx.nm;have hwt:w.length≤1000000:=hx.wt;have hst:st≤1000000:=hx.st;have har:ar≤1000000:=hx.ar;have hval:=hx.val;obtain⟨w1,w2,w3,w4⟩:=hx.w;dsimp only at w1 w2 w3 w4;have hcn:∀a∈wtsS s,zqd [.fs (strs w) w.length,.str a]=some (.ret (.int .i64 (valS e a))):=fun a h=>by rw[(hv a h).2];exact zse w a Zo (hv a h).1
 have hsu:=zfs ⟨nm,w.length,st,ar⟩ e s;have hall:=zgS ⟨nm,w.length,st,ar⟩ e s;have hbi:=zd7 hx s;have hq0:staQ ⟨nm,w.length,st,ar⟩ e s 0=(b2n (!decide (s.f=[])),1)::((if s.f=[]then []else [((valS e s.f).toNat,widI ((w.length:Int)-1))])++[(s.a.length,widI ar)]):=rfl;have hap:∀a,arcP ⟨nm,w.length,st,ar⟩ e a=(b2n (decide (a.i=a.o)),1)::(a.i.toNat,widI nm)::((if a.i=a.o then []else [(a.o.toNat,widI nm)])++[((valS e a.w).toNat,widI ((w.length:Int)-1)),(a.t.toNat,widI ((st:Int)-1))]):=fun _=>rfl;rw[←hall];generalize staQ ⟨nm,w.length,st,ar⟩ e s=Q at*;generalize hA:arcP ⟨nm,w.length,st,ar⟩ e=AP at*;obtain⟨F,A⟩:=s;dsimp only at hs ha hsu hbi hq0 ⊢;unfold staV;dsimp only;have hΓ:=zg zsd (zg zr8 zh);refine PCall.walk (rs:=[.tmp 10]) [0,1,2,3,4,5,10,11,12,13,16,42,54] [] mixed (hΓ) (zcE) call38 func38 rfl ntmps38 rfl Zk Zs (by simp[push_cast,zaW]) ?_;have stp:∀(d:ZL)(z n:Nat),d≠[]→∃D,d++bitF z n=D∧D≠[]∧D.length=d.length+z:=fun d z n h=>⟨_,rfl,by simp[h],by rw[Yd,zc3]⟩;by_cases hf:F=[]
 ·have d1:decide (F=[])=true:=by simp[hf]
  obtain⟨B1,hB1,m1,l1⟩:∃B,bitF 1 0=B∧B≠[]∧B.length=1:=⟨_,rfl,by simp[bitF],zc3 _ _⟩;obtain⟨B3,hB3,m3,l3⟩:=stp B1 (widI ar) A.length m1;have e0:zaE (Q 0)=B3:=by rw[hq0,←hB3,←hB1];simp[zaE,hf,b2n]
  simp(disch:=try exact Zp)only[go_sem,d1,zb2,zac,zau,Yp,hB1,hB3];refine AXk.intro Zk ?_;simp(disch:=try exact Zp)only[go_sem,d1,zb2,zac,zau,Yp,hB1,hB3];refine AXs.loop mixed (hΓ) (zcE) (ι:=Nat×ZL) (fun i=>[(12,.int .i64 i.1),(11,.sl 2 0 i.2.length 1 none),(5,.ptr 0 0),(1,.fs (strs w) w.length),(2,.int .i64 nm),(3,.int .i64 st)]) (fun i=>⟨[(2,bly i.2),(0,.cells [.str F,.fs (arcs A) A.length])],3⟩) (fun i=>i.1≤A.length∧i.2=zaE (Q i.1)∧i.2≠[]) (fun i=>A.length-i.1) (0,B3) Zk ⟨Yk _,e0.symm,m3⟩ (Xa [(2,2)] rfl rfl ?_ ?_) ?_
  ·simp only[go_sem]
  ·simp only[go_sem]
  rintro⟨i,d⟩ ⟨g1,g2,g3⟩;dsimp only at g1 g2 g3 ⊢;have gl:d.length≤100+100*i:=by rw[g2,zck];exact hbi i g1
  by_cases hi:i<A.length
  ·have d2:decide ((i:Int)<A.length)=true:=Yf Zo;have at1:=zbL A i hi;have hsui:=hsu i hi;have haa:zgN (nthA A i):=ha _ (arcR.nth_mem hi);have hcw:zqd [.fs (strs w) w.length,.str (nthA A i).w]=some (.ret (.int .i64 (valS e (nthA A i).w))):=hcn _ (YH _ (List.mem_map_of_mem (arcR.nth_mem hi)));obtain⟨a1,a2,a3,a4,a5,a6⟩:=haa;have hvw:=hval (nthA A i).w;have hapi:=hap (nthA A i);generalize hAX:nthA A i=ax at*;have ei:(i:Int)+1=((i+1:Nat):Int):=Zo;by_cases hio:ax.i=ax.o
   ·have d3:decide (ax.i=ax.o)=true:=Yf hio;obtain⟨D1,hD1,n1,p1⟩:=stp d 1 1 g3;obtain⟨D2,hD2,n2,p2⟩:=stp D1 (widI nm) ax.i.toNat n1;obtain⟨D3,hD3,n3,p3⟩:=stp D2 (widI ((w.length:Int)-1)) (valS e ax.w).toNat n2;obtain⟨D4,hD4,n4,p4⟩:=stp D3 (widI ((st:Int)-1)) ax.t.toNat n3;simp(disch:=try exact Zp)only[go_sem,d2,at1,d3,ei,hcw,zb2,zac,zau,Yp,hD1,hD2,hD3,hD4];refine⟨⟨Zo,Zo⟩,AXk.intro Zk ?_⟩;simp(disch:=try exact Zp)only[go_sem,d2,at1,d3,ei,hcw,zb2,zac,zau,Yp,hD1,hD2,hD3,hD4];refine AXk.intro Zk ?_;simp(disch:=try exact Zp)only[go_sem,d2,at1,d3,ei,hcw,zb2,zac,zau,Yp,hD1,hD2,hD3,hD4];have eD:D4=zaE (Q (i+1)):=by rw[hsui,hapi,zaY,←g2,←hD4,←hD3,←hD2,←hD1];simp[zaE,hio,b2n]
    exact zi (i+1,D4) ⟨hi,eD,n4⟩ (by show A.length-(i+1)<A.length-i;omega) (Xa [(2,7)] rfl rfl Zg Zg)
   have d3:decide (ax.i=ax.o)=false:=Ye hio;obtain⟨D1,hD1,n1,p1⟩:=stp d 1 0 g3;obtain⟨D2,hD2,n2,p2⟩:=stp D1 (widI nm) ax.i.toNat n1;obtain⟨D5,hD5,n5,p5⟩:=stp D2 (widI nm) ax.o.toNat n2;obtain⟨D3,hD3,n3,p3⟩:=stp D5 (widI ((w.length:Int)-1)) (valS e ax.w).toNat n5;obtain⟨D4,hD4,n4,p4⟩:=stp D3 (widI ((st:Int)-1)) ax.t.toNat n3;have eD:D4=zaE (Q (i+1)):=by rw[hsui,hapi,zaY,←g2,←hD4,←hD3,←hD5,←hD2,←hD1];simp[zaE,hio,b2n]
   simp(disch:=try exact Zp)only[go_sem,d2,at1,d3,ei,hcw,zb2,zac,zau,Yp,hD1,hD2,hD5,hD3,hD4];refine⟨⟨Zo,Zo⟩,AXk.intro Zk ?_⟩;simp(disch:=try exact Zp)only[go_sem,d2,at1,d3,ei,hcw,zb2,zac,zau,Yp,hD1,hD2,hD5,hD3,hD4];refine AXk.intro Zk ?_;simp(disch:=try exact Zp)only[go_sem,d2,at1,d3,ei,hcw,zb2,zac,zau,Yp,hD1,hD2,hD5,hD3,hD4];refine AXk.intro Zk ?_;simp(disch:=try exact Zp)only[go_sem,d2,at1,d3,ei,hcw,zb2,zac,zau,Yp,hD1,hD2,hD5,hD3,hD4];exact zi (i+1,D4) ⟨hi,eD,n4⟩ (by show A.length-(i+1)<A.length-i;omega) (Xa [(2,8)] rfl rfl Zg Zg)
  obtain rfl:i=A.length:=Zo;have d2:decide ((A.length:Int)<A.length)=false:=Ye Zo;simp(disch:=try exact Zp)only[go_sem,d2];refine AXa.go mixed (hΓ) (zcE) Zk ?_;simp(disch:=try exact Zp)only[go_sem,d2];rw[←g2];exact Xp (t:=5) (cs:=d.map zt) rfl Zs (by rw[Y1,Yag,Yl Zs]) (zad d)
 have d1:decide (F=[])=false:=by simp[hf]
 obtain⟨B1,hB1,m1,l1⟩:∃B,bitF 1 1=B∧B≠[]∧B.length=1:=⟨_,rfl,by simp[bitF],zc3 _ _⟩;have hcF:zqd [.fs (strs w) w.length,.str F]=some (.ret (.int .i64 (valS e F))):=hcn F (by simp[wtsS,hf]);have hvF:=hval F;obtain⟨B2,hB2,m2,l2⟩:=stp B1 (widI ((w.length:Int)-1)) (valS e F).toNat m1;obtain⟨B3,hB3,m3,l3⟩:=stp B2 (widI ar) A.length m2;have e0:zaE (Q 0)=B3:=by rw[hq0,←hB3,←hB2,←hB1];simp[zaE,hf,b2n]
 simp(disch:=try exact Zp)only[go_sem,d1,hcF,zb2,zac,zau,Yp,hB1,hB2,hB3];refine AXk.intro Zk ?_;simp(disch:=try exact Zp)only[go_sem,d1,hcF,zb2,zac,zau,Yp,hB1,hB2,hB3];refine AXs.loop mixed (hΓ) (zcE) (ι:=Nat×ZL) (fun i=>[(12,.int .i64 i.1),(11,.sl 2 0 i.2.length 1 none),(5,.ptr 0 0),(1,.fs (strs w) w.length),(2,.int .i64 nm),(3,.int .i64 st)]) (fun i=>⟨[(2,bly i.2),(0,.cells [.str F,.fs (arcs A) A.length])],3⟩) (fun i=>i.1≤A.length∧i.2=zaE (Q i.1)∧i.2≠[]) (fun i=>A.length-i.1) (0,B3) Zk ⟨Yk _,e0.symm,m3⟩ (Xa [(2,3)] rfl rfl ?_ ?_) ?_
 ·simp only[go_sem]
 ·simp only[go_sem]
 rintro⟨i,d⟩ ⟨g1,g2,g3⟩;dsimp only at g1 g2 g3 ⊢;have gl:d.length≤100+100*i:=by rw[g2,zck];exact hbi i g1
 by_cases hi:i<A.length
 ·have d2:decide ((i:Int)<A.length)=true:=Yf Zo;have at1:=zbL A i hi;have hsui:=hsu i hi;have haa:zgN (nthA A i):=ha _ (arcR.nth_mem hi);have hcw:zqd [.fs (strs w) w.length,.str (nthA A i).w]=some (.ret (.int .i64 (valS e (nthA A i).w))):=hcn _ (YH _ (List.mem_map_of_mem (arcR.nth_mem hi)));obtain⟨a1,a2,a3,a4,a5,a6⟩:=haa;have hvw:=hval (nthA A i).w;have hapi:=hap (nthA A i);generalize hAX:nthA A i=ax at*;have ei:(i:Int)+1=((i+1:Nat):Int):=Zo;by_cases hio:ax.i=ax.o
  ·have d3:decide (ax.i=ax.o)=true:=Yf hio;obtain⟨D1,hD1,n1,p1⟩:=stp d 1 1 g3;obtain⟨D2,hD2,n2,p2⟩:=stp D1 (widI nm) ax.i.toNat n1;obtain⟨D3,hD3,n3,p3⟩:=stp D2 (widI ((w.length:Int)-1)) (valS e ax.w).toNat n2;obtain⟨D4,hD4,n4,p4⟩:=stp D3 (widI ((st:Int)-1)) ax.t.toNat n3;simp(disch:=try exact Zp)only[go_sem,d2,at1,d3,ei,hcw,zb2,zac,zau,Yp,hD1,hD2,hD3,hD4];refine⟨⟨Zo,Zo⟩,AXk.intro Zk ?_⟩;simp(disch:=try exact Zp)only[go_sem,d2,at1,d3,ei,hcw,zb2,zac,zau,Yp,hD1,hD2,hD3,hD4];refine AXk.intro Zk ?_;simp(disch:=try exact Zp)only[go_sem,d2,at1,d3,ei,hcw,zb2,zac,zau,Yp,hD1,hD2,hD3,hD4];have eD:D4=zaE (Q (i+1)):=by rw[hsui,hapi,zaY,←g2,←hD4,←hD3,←hD2,←hD1];simp[zaE,hio,b2n]
   exact zi (i+1,D4) ⟨hi,eD,n4⟩ (by show A.length-(i+1)<A.length-i;omega) (Xa [(2,7)] rfl rfl Zg Zg)
  have d3:decide (ax.i=ax.o)=false:=Ye hio;obtain⟨D1,hD1,n1,p1⟩:=stp d 1 0 g3;obtain⟨D2,hD2,n2,p2⟩:=stp D1 (widI nm) ax.i.toNat n1;obtain⟨D5,hD5,n5,p5⟩:=stp D2 (widI nm) ax.o.toNat n2;obtain⟨D3,hD3,n3,p3⟩:=stp D5 (widI ((w.length:Int)-1)) (valS e ax.w).toNat n5;obtain⟨D4,hD4,n4,p4⟩:=stp D3 (widI ((st:Int)-1)) ax.t.toNat n3;have eD:D4=zaE (Q (i+1)):=by rw[hsui,hapi,zaY,←g2,←hD4,←hD3,←hD5,←hD2,←hD1];simp[zaE,hio,b2n]
  simp(disch:=try exact Zp)only[go_sem,d2,at1,d3,ei,hcw,zb2,zac,zau,Yp,hD1,hD2,hD5,hD3,hD4];refine⟨⟨Zo,Zo⟩,AXk.intro Zk ?_⟩;simp(disch:=try exact Zp)only[go_sem,d2,at1,d3,ei,hcw,zb2,zac,zau,Yp,hD1,hD2,hD5,hD3,hD4];refine AXk.intro Zk ?_;simp(disch:=try exact Zp)only[go_sem,d2,at1,d3,ei,hcw,zb2,zac,zau,Yp,hD1,hD2,hD5,hD3,hD4];refine AXk.intro Zk ?_;simp(disch:=try exact Zp)only[go_sem,d2,at1,d3,ei,hcw,zb2,zac,zau,Yp,hD1,hD2,hD5,hD3,hD4];exact zi (i+1,D4) ⟨hi,eD,n4⟩ (by show A.length-(i+1)<A.length-i;omega) (Xa [(2,8)] rfl rfl Zg Zg)
 obtain rfl:i=A.length:=Zo;have d2:decide ((A.length:Int)<A.length)=false:=Ye Zo;simp(disch:=try exact Zp)only[go_sem,d2];refine AXa.go mixed (hΓ) (zcE) Zk ?_;simp(disch:=try exact Zp)only[go_sem,d2];rw[←g2];exact Xp (t:=5) (cs:=d.map zt) rfl Zs (by rw[Y1,Yag,Yl Zs]) (zad d)
structure StaOK(nm st ar:Nat)(w:List Str)(s:Sta):Prop where
 lay:LayOK ⟨nm,w.length,st,ar⟩ (wnum w w.length)
 wt:1≤w.length
 st:1≤st
 len:s.a.length≤100000
 arc:∀a∈s.a,zgN a
 inc:IncS w
 mem:∀a∈wtsS s,a∈w
structure StaP where
 nm:Nat
 st:Nat
 ar:Nat
 w:List Str
 s:Sta
def cRSta:ZV:=zC (fun p:StaP=>[staV p.s,.fs (strs p.w) p.w.length,.int .i64 p.nm,.int .i64 p.st,.int .i64 p.ar]) (fun p=>StaOK p.nm p.st p.ar p.w p.s) fun p=>.ret (rowV (zaE (staP ⟨p.nm,p.w.length,p.st,p.ar⟩ (wnum p.w p.w.length) p.s)))
def cRSta_eq(nm st ar:Nat)(w:List Str)(s:Sta)(h:StaOK nm st ar w s):cRSta [staV s,.fs (strs w) w.length,.int .i64 nm,.int .i64 st,.int .i64 ar]=some (.ret (rowV (zaE (staP ⟨nm,w.length,st,ar⟩ (wnum w w.length) s)))):=
 zo (pat:=fun p:StaP=>[staV p.s,V.fs (strs p.w) p.w.length,.int .i64 p.nm,.int .i64 p.st,.int .i64 p.ar]) (fun x y h=>by obtain⟨n1,s1,a1,w1,t1⟩:=x;obtain⟨n2,s2,a2,w2,t2⟩:=y;simp only[Yw,V.fs.injEq,V.int.injEq,Yaf,Yap]at h;obtain⟨e1,⟨e2,_⟩,e3,e4,e5⟩:=h;obtain rfl:=zkr e1;obtain rfl:=za1 e2;obtain rfl:n1=n2:=Zo;obtain rfl:s1=s2:=Zo;obtain rfl:a1=a2:=Zo;rfl) ⟨nm,st,ar,w,s⟩ h
def cRSta_ok:ZC cRSta 38:=zn fun p h=>zwx p.nm p.st p.ar p.w (wnum p.w p.w.length) p.s h.lay h.wt h.st h.len h.arc fun a ha=>⟨h.mem a ha,zqP p.w h.inc a (h.mem a ha)⟩
def rowsR:Row ZL where
 enc l:=[rowV l]
 n:=1
 dflt:=[]
 len _:=rfl
 pos:=Zd
 pure l x hx:=by rw[YW.1 hx];exact .fs (zad l)
 one _:=rfl
 inj a b h:=by have h:=List.cons.inj h;have:=(V.fs.inj h.1).1;exact zda (by unfold bly;rw[this])
def rows(l:List ZL):ZA:=rowsR.cells l
def nthBR(l:List ZL)(i:Nat):ZL:=rowsR.nth l i
def zkE(l:List ZL):(rows l).length=l.length:=(rowsR.len_cells l).trans (Yag _)
def rows_app(l:List ZL)(x:ZL):rows l++[rowV x]=rows (l++[x]):=by unfold rows;rw[rowsR.cells_append];rfl
def rows_at(l:List ZL)(i:Nat)(h:i<l.length):(rows l).drop i=rowV (nthBR l i)::rows (l.drop (i+1)):=by have:=rowsR.at_ l i h;rw[show i*rowsR.n=i from Yag i]at this;exact this
def rows_rn {π:Nat→Nat}{N:Nat→Prop}(l:List ZL):LRel (Rn π N) (rows l) (rows l)↔True:=⟨fun _=>trivial,fun _=>zA (rowsR.pure_cells l)⟩
def rwV(l:List ZL):V:=match l with|[]=>.nilS|_::_=>.sl 0 0 l.length 1 none
def rwB(l:List ZL):ZH:=match l with|[]=>[]|_::_=>[(0,.cells (rows l))]
def rwN(l:List ZL):Nat:=match l with|[]=>0|_::_=>1
def rwV_ne {l:List ZL}(h:l≠[]):rwV l=.sl 0 0 l.length 1 none:=by cases l with|nil=>exact absurd rfl h|cons=>rfl
def rwB_ne {l:List ZL}(h:l≠[]):rwB l=[(0,.cells (rows l))]:=by cases l with|nil=>exact absurd rfl h|cons=>rfl
def rwN_ne {l:List ZL}(h:l≠[]):rwN l=1:=by cases l with|nil=>exact absurd rfl h|cons=>rfl
def biV(l:ZL):V:=match l with|[]=>.nilS|_::_=>.sl 2 0 l.length 1 none
def biB(l:ZL)(r:ZH):ZH:=match l with|[]=>r|_::_=>(2,bly l)::r
def biN(l:ZL):Nat:=match l with|[]=>2|_::_=>3
def biV_ne {l:ZL}(h:l≠[]):biV l=.sl 2 0 l.length 1 none:=by cases l with|nil=>exact absurd rfl h|cons=>rfl
def biB_ne {l:ZL}(r:ZH)(h:l≠[]):biB l r=(2,bly l)::r:=by cases l with|nil=>exact absurd rfl h|cons=>rfl
def biN_ne {l:ZL}(h:l≠[]):biN l=3:=by cases l with|nil=>exact absurd rfl h|cons=>rfl
def zrd(l:List ZL)(i:Nat)(h:i<l.length):nthV (rows l) i=rowV (nthBR l i):=by have:=rows_at l i h;rw[zbt,←List.head?_drop,this];rfl
def acc8(B:ZL)(i:Nat):Nat→Nat
 |0=>0
 |k+1=>2*acc8 B i k+bt B (i+k)
def acc8_8(B:ZL)(j:Nat):acc8 B (8*j) 8=byt B j:=by unfold byt;simp only[acc8,Y3];omega
def bt_lt(B:ZL)(i:Nat):bt B i<256:=(B.getD i 0).toNat_lt
def zBn(B:ZL)(i:Nat):∀k,acc8 B i k≤256*(2^k-1)
 |0=>by simp[acc8]
 |k+1=>by have h1:=zBn B i k;have h2:=bt_lt B (i+k);have h3:0<2^k:=Nat.two_pow_pos k;rw[acc8,YM];omega
def zsq:∀(k n:Nat),∀x∈bitF k n,x.toNat<2
 |0,_,x,h=>by cases h
 |k+1,n,x,h=>by
  rw[bitF]at h;rcases Yy.1 h with rfl|h
  ·rw[UInt8.toNat_ofNat'];omega
  exact zsq k n x h
def zn8(L:List (Nat×Nat)):∀x∈zaE L,x.toNat<2:=fun x h=>by obtain⟨p,_,h⟩:=Ya5.1 h;exact zsq _ _ x h
def zgE {B:ZL}(h:∀x∈B,x.toNat<2)(i:Nat):bt B i<2:=by
 unfold bt;rw[Ya];by_cases hi:i<B.length
 ·rw[Yb hi];exact h _ (Y6 hi)
 rw[Yr Zo];decide
def byt_lt {B:ZL}(h:∀x∈B,x.toNat<2)(i:Nat):byt B i<256:=by unfold byt;have h0:=zgE h (8*i);have h1:=zgE h (8*i+1);have h2:=zgE h (8*i+2);have h3:=zgE h (8*i+3);have h4:=zgE h (8*i+4);have h5:=zgE h (8*i+5);have h6:=zgE h (8*i+6);have h7:=zgE h (8*i+7);omega
def apL_zero(l:ZL)(b n:Nat)(R:ZN)(H:Hp)(hn:n=l.length)(hl:n≤10000000000):apL (some (bly l)) 5 1 1 true b 0 n 1 [.int .u8 0] 1 R H=⟨True,.sl H.next 0 (n+1) 1 none,(H.kill b).new (bly (l++[0])),b::R,[b]⟩:=zgt l 0 b n R H Zd hn hl
def rseal(l:ZL):ZA→Option ZL
 |[]=>if l≠[]∧l.length≤90000000 then some (l++sumB l)else none
 |_=>none
def rseal_ok:∀args H r,ApR rseal args H r→HCall prog 10 args H r:=by
 refine zsA fun l rest l' hs=>?_;unfold rseal at hs;split at hs
 ·split at hs
  ·rename_i hx;cases hs;exact⟨fun x hx=>(YaE hx).elim,fun e=>absurd e hx.1,fun e=>absurd e hx.1,fun _=>rseal_N l hx.1 hx.2⟩
  cases hs
 cases hs
def Δr:FuncId→ZA→Hp→Option AR:=za8 10 (conD (ApR rseal)) (za8 41 (conD (ApR zf1)) Δr0)
def Δr_ok:zaP prog Δr:=zJ (zV rseal_ok) (zJ (zV rfold_ok) zcE)
def Δr_var(b k:Nat)(l:ZL)(n:Nat)(bs:ZH)(nx:Nat)(hb:zL bs b=some (bly l))(hk':k=l.length)(h:l≠[])(hl:l.length≤90000000)(hn:n<4000000000000)(hk:((keysB bs).all fun b=>decide (b<nx))=true):Δr 40 [.sl b 0 k 1 none,.int .i64 n] ⟨bs,nx⟩=some ⟨True,.sl nx 0 (l++varF 5 n).length 1 none,((⟨bs,nx⟩:Hp).kill b).new (bly (l++varF 5 n)),[b],[b]⟩:=zj5 b k l n bs nx hb hk' h hl hn hk
def Δr_put(b k:Nat)(l:ZL)(n z:Nat)(bs:ZH)(nx:Nat)(hb:zL bs b=some (bly l))(hk':k=l.length)(h:l≠[])(hl:l.length≤90000000)(hn:n<1152921504606846976)(hz:z≤60)(hk:((keysB bs).all fun b=>decide (b<nx))=true):Δr 42 [.sl b 0 k 1 none,.int .i64 n,.int .i64 z] ⟨bs,nx⟩=some ⟨True,.sl nx 0 (l++bitF z n).length 1 none,((⟨bs,nx⟩:Hp).kill b).new (bly (l++bitF z n)),[b],[b]⟩:=zqJ b k l n z bs nx hb hk' h hl hn hz hk
def Δr_putN(n z:Nat)(bs:ZH)(nx:Nat)(hn:n<1152921504606846976)(hz:z≤60)(h0:0<z)(hk:((keysB bs).all fun b=>decide (b<nx))=true):Δr 42 [.nilS,.int .i64 n,.int .i64 z] ⟨bs,nx⟩=some ⟨True,.sl nx 0 z 1 none,(⟨bs,nx⟩:Hp).new (bly (bitF z n)),[],[]⟩:=zl7 n z bs nx hn hz h0 hk
def Δr_fold(b k n:Nat)(l:ZL)(q:List Str)(bs:ZH)(nx:Nat)(hb:zL bs b=some (bly l))(hk':k=l.length)(hn:n=q.length)(h:l≠[])(h1:l.length+20*q.length+sumL q≤80000000)(h2:∀s∈q,s.length≤1000000)(hk:((keysB bs).all fun b=>decide (b<nx))=true):Δr 41 [.sl b 0 k 1 none,.fs (strs q) n] ⟨bs,nx⟩=some ⟨True,.sl nx 0 (l++za3 [] q).length 1 none,((⟨bs,nx⟩:Hp).kill b).new (bly (l++za3 [] q)),[b],[b]⟩:=by subst hn;exact ap_sl (st:=zf1) hb hk' h (ztd h h1 h2) hk
def zqI(b k:Nat)(l:ZL)(bs:ZH)(nx:Nat)(hb:zL bs b=some (bly l))(hk':k=l.length)(h:l≠[])(hl:l.length≤90000000)(hk:((keysB bs).all fun b=>decide (b<nx))=true):Δr 10 [.sl b 0 k 1 none] ⟨bs,nx⟩=some ⟨True,.sl nx 0 (l++sumB l).length 1 none,((⟨bs,nx⟩:Hp).kill b).new (bly (l++sumB l)),[b],[b]⟩:=
 ap_sl (st:=rseal) hb hk' h (Yi ⟨h,hl⟩) hk
def zwB(l:List ZL)(x:ZL):rows l++[.fs (x.map zt) x.length]=rows (l++[x]):=rows_app l x
theorem zwA(x:ZL):[V.fs (x.map zt) x.length]=rows [x]:=rfl
def rwsQ(X:Lay)(E:Ens)(q:List Sta)(i:Nat):List ZL:=(q.take i).map fun s=>zaE (staP X E s)
def zwv(X:Lay)(E:Ens)(q:List Sta)(i:Nat)(h:i<q.length):rwsQ X E q (i+1)=rwsQ X E q i++[zaE (staP X E (nthQ q i))]:=by unfold rwsQ;rw[show q.take (i+1)=q.take i++[nthQ q i]from staR.take_nth q i h,YV];rfl
def rwsQ_len(X:Lay)(E:Ens)(q:List Sta)(i:Nat)(h:i≤q.length):(rwsQ X E q i).length=i:=by unfold rwsQ;rw[Y5,Yx];omega
def zrb(X:Lay)(E:Ens)(q:List Sta)(i:Nat)(h:i<q.length):nthBR (rwsQ X E q q.length) i=zaE (staP X E (nthQ q i)):=by unfold nthBR rwsQ nthQ Row.nth;rw[Ym,Ya,Ya,YX,Yb h];rfl
def zks(X:Lay)(E:Ens)(s:Sta):(zaE (staP X E s)).length=zcf X s:=by rw[zck,zwk]
def ziN {P:Program}(t:TypeId)(a b c d e f g:V)(bs:ZH)(m:Nat):zM P t 7 [(0,a),(1,b),(2,c),(3,d),(4,e),(5,f),(6,g)] ⟨bs,m⟩=bsL (zbX P t) [a,b,c,d,e,f,g] ⟨bs,m⟩ (zcm P t 7 [(0,a),(1,b),(2,c),(3,d),(4,e),(5,f),(6,g)] ⟨bs,m⟩):=by
 unfold bsL;split
 ·rename_i s z hb;split
  ·rename_i hc;obtain⟨rfl,h1,h2,h3⟩:=hc;simp only[Ybs,YcE,YaC,Yg]at h3;obtain⟨a1,a2⟩:=V.one_cells h3.1;obtain⟨b1,b2⟩:=V.one_cells h3.2.1;obtain⟨c1,c2⟩:=V.one_cells h3.2.2.1;obtain⟨d1,d2⟩:=V.one_cells h3.2.2.2.1;obtain⟨e1,e2⟩:=V.one_cells h3.2.2.2.2.1;obtain⟨f1,f2⟩:=V.one_cells h3.2.2.2.2.2.1;obtain⟨g1,g2⟩:=V.one_cells h3.2.2.2.2.2.2;unfold zbX at hb;split at hb
   ·rename_i e' he;split at hb
    ·rename_i s' z' k1 k2;cases hb;match hz:(cv z).cellsV,h2 with
     |[y],_=>
      have zz:zbc P e' 7=[y,y,y,y,y,y,y]:=by simp[zbc,k2,hz]
      simp[zM,he,k1,k2,zdo,a1,a2,b1,b2,c1,c2,d1,d2,e1,e2,f1,f2,g1,g2,zz,hz,h1,putCells,Hp.new]
    cases hb
   cases hb
  rfl
 rfl
def zv4(X:Lay)(q:List Sta){i j:Nat}(h:i≤j):totQ X q i≤totQ X q j:=by
 unfold totQ;have:(q.take j)=(q.take i)++((q.take j).drop i):=by have h2:=Yae i (q.take j);rw[Ybu,Ya0 h]at h2;exact h2.symm
 rw[this,YV,List.sum_append];omega
def zlU(f n:Nat)(h:0<n):0<Lib.bitLenAux (f+1) n:=by rw[Lib.bitLenAux,Yh Zo];omega
def widI_pos {n:Nat}(h:1≤n):1≤widI n:=by have:=zlU 63 n h;exact this
def offP_len(X:Lay)(q:List Sta)(i:Nat):zbK (offP X q i)=i*widI (totQ X q q.length):=by
 induction i with
 |zero=>rw[Ybe];rfl
 |succ i ih=>rw[zfy,zc2,ih,Yal,YbS];rfl
def sizeS_le(X:Lay)(s:Sta):zcf X s≤200+300*s.a.length:=by
 have h1:=zdG X s s.a.length (Yc _);have e9:sizeT X s s.a.length=zcf X s:=by unfold sizeT zcf;rw[Ym]
 omega
def zzo(b off n sz:Nat)(kc:Option Nat)(cs:ZA)(H:Hp)(hb:H.get b=some (.cells cs)):zcy prog 28 28 (.sl b off n sz kc) H=⟨True,.sl b off n sz kc,H.put b (.ro cs),[b],[b]⟩:=by have e1:prog.underlying 28=some (.slice 5):=Zk;have e2:prog.underlying 5=some (.int .u8):=Zk;unfold zcy zfm;simp only[e1,e2,hb,YbD];rfl
end Go.Proofs
