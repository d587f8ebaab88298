import Derived.Test.YtbdlfegfepggnaaGreatDoorPlMid
set_option linter.all false
set_option maxHeartbeats 16000000
set_option maxRecDepth 100000
noncomputable section
namespace Go.Proofs
open Tryz Go.Ab Go.Pl
def zmw {k:IntKind}{l:ZN}{n d:Nat}{v:Int}(h:v=(d:Nat)):(nats k l).set n (.int k v)=nats k (l.set n d):=by rw[h,zky]
def zln(k:IntKind)(n:Nat):ints k (List.replicate n 0)=nats k (List.replicate n 0):=by simp[ints,nats]
def mulV(a b:ZL):V:=if zH a=true∧zH b=true then limV (valD a*valD b)else errV 1
def zxO(hT:ziF)(a b:ZL):PCall prog 130 [.str a,.str b] (.ret (mulV a b)):=by
 have hΓ:=zg zdt (zg zdv (zg zcc (zg (ziu hT) zh)));refine Xc (rs:=[.tmp 4,.tmp 5]) [0,1,4,5,6,7,8,9,10,11,12,20,33,34,35,39,40,41,54] [] mixed (hΓ) (zf) call130 func130 rfl ntmps130 rfl ?_;by_cases ha:zH a=true
 case neg=>simp only[go_sem,mulV,ha,errV]
 by_cases hb:zH b=true
 case neg=>simp only[go_sem,mulV,ha,hb,errV]
 have da:=zah ha;have la:=zW ha;have db:=zah hb;have lb:=zW hb;have ba:=zbO da la;have bb:=zbO db lb;have bm:=zm5 ba bb;obtain⟨s,e,hse⟩:=zg2 (valD a*valD b);have hres:mulV a b=.tup [.str s,.int .i64 e]:=by unfold mulV;rw[Yi ⟨ha,hb⟩,hse]
 rw[hres];have ox:=zI (valD a);have oy:=zI (valD b);have hfin:∀l,mulOut (limbs (valD a)) (limbs (valD b)) (limbs (valD a)).length l→zaw l=limbs (valD a*valD b):=fun l h=>by rw[zrl h,zG,zG]
 simp(disch:=try exact Zq)only[go_sem,ha,hb];generalize limbs (valD a)=x at*;generalize limbs (valD b)=y at*;simp(disch:=try exact Zq)only[go_sem,zkg,zln];refine⟨Zo,?_⟩;refine AXs.loop mixed (hΓ) (zf) (fun(p:Nat×ZN)=>[(6,.fs (nats .u64 x) x.length),(7,.fs (nats .u64 y) y.length),(8,.sl 0 0 (x.length+y.length+1) 1 (some (x.length+y.length+1))),(33,.int .i64 x.length),(34,.int .i64 p.1)]) (fun p=>⟨[(0,.cells (nats .u64 p.2))],1⟩)
  (fun p=>p.1≤x.length∧mulOut x y p.1 p.2) (fun p=>x.length-p.1) (0,List.replicate (x.length+y.length+1) 0) Zk ⟨Yk _,mul_start x y⟩ (Xa [] rfl rfl ?_ ?_) ?_
 ·simp only[go_sem]
 ·simp only[go_sem]
 rintro⟨i,l0⟩ ⟨hi,ho⟩;dsimp only at hi ho ⊢;simp(disch:=try exact Zq)only[go_sem];refine Xb (fun h1=>?_) (fun h1=>?_)
 ·have hix:i<x.length:=Zo;simp(disch:=try exact Zq)only[go_sem];refine AXs.loop mixed (hΓ) (zf) (fun(p:Nat×ZN×Nat)=>[(6,.fs (nats .u64 x) x.length),(7,.fs (nats .u64 y) y.length),(8,.sl 0 0 (x.length+y.length+1) 1 (some (x.length+y.length+1))),(9,.int .i64 i),(10,.int .u64 p.2.2),(33,.int .i64 x.length),(34,.int .i64 i),(39,.int .i64 (y.length+1:Int)),(40,.int .i64 p.1)]) (fun p=>⟨[(0,.cells (nats .u64 p.2.1))],1⟩)
   (fun p=>p.1≤y.length+1∧mulInv x y i (valL l0) p.1 p.2.1 p.2.2) (fun p=>y.length+1-p.1) (0,l0,0) Zk ⟨Yk _,mul_row ho⟩ (Xa [] rfl rfl ?_ ?_) ?_
  ·simp only[go_sem]
  ·simp only[go_sem]
  rintro⟨k,l,c⟩ ⟨hk,hv⟩;dsimp only at hk hv ⊢;have hl:=hv.1;have hkl:=hv.2.1;have hcl:=hv.2.2.1;simp(disch:=try exact Zq)only[go_sem];refine Xb (fun h2=>?_) (fun h2=>?_)
  ·have hky:k≤y.length:=Zo;have hst:=mul_step ox oy hix hky hv;have hpl:=mulP_lt (i:=i) (k:=k) ox oy hkl hcl;have hgl:=getD_lt hkl (i+k);have hm:(x.getD i 0:Int)*(y.getD k 0:Int)=((x.getD i 0*y.getD k 0:Nat):Int):=Zs;have hp1:mulP x y i k l c=l.getD (i+k) 0+c+x.getD i 0*y.getD k 0:=rfl;have hyz:¬(k:Int)<y.length→x.getD i 0*y.getD k 0=0:=fun h=>by rw[za2 y _ _ Zo];simp
   generalize x.getD i 0*y.getD k 0=q at*;by_cases h3:(k:Int)<y.length
   ·simp(disch:=try exact Zq)only[go_sem,h3,hm];repeat refine And.intro Zo ?_
    refine zi (k+1,l.set (i+k) (mulP x y i k l c%1000000000),mulP x y i k l c/1000000000) ⟨Zo,hst⟩ (by dsimp only;omega) (Xa [] rfl rfl ?_ ?_)
    ·simp only[go_sem];rw[hp1];simp only[V.int.injEq,Yaf];omega
    simp only[go_sem];rw[zmw (d:=mulP x y i k l c%1000000000) (by rw[hp1];omega)]
   have hq0:=hyz h3;subst hq0;simp(disch:=try exact Zq)only[go_sem,h3];repeat refine And.intro Zo ?_
   refine zi (k+1,l.set (i+k) (mulP x y i k l c%1000000000),mulP x y i k l c/1000000000) ⟨Zo,hst⟩ (by dsimp only;omega) (Xa [] rfl rfl ?_ ?_)
   ·simp only[go_sem];rw[hp1];simp only[V.int.injEq,Yaf];omega
   simp only[go_sem];rw[zmw (d:=mulP x y i k l c%1000000000) (by rw[hp1];omega)]
  have hke:k=y.length+1:=Zo;subst hke;have hen:=mul_end ho hv;simp(disch:=try exact Zq)only[go_sem];refine AXa.go mixed (hΓ) (zf) Zk ?_;simp(disch:=try exact Zq)only[go_sem];refine zi (i+1,l) ⟨Zo,hen⟩ (by dsimp only;omega) (Xa [] rfl rfl ?_ ?_)
  ·simp only[go_sem];simp
  simp only[go_sem]
 have hie:i=x.length:=Zo;subst hie;have hll:=ho.1;have hft:=hfin l0 ho;simp only[go_sem];refine AXa.fz [0] rfl rfl rfl (env':=[(8,.fs (nats .u64 l0) l0.length)]) (bs':=[]) (n':=1) ?_ ?_ ?_
 ·simp only[go_sem];right;exact FrzF.slp Zs rfl Zo (by simp[zQ];omega) (by rw[Y1,Yag,zbT,←hll,Ym]) (zaH _ _)
 ·simp only[go_sem]
 refine AXa.go mixed (hΓ) (zf) Zk ?_;simp(disch:=try exact Zq)only[go_sem,hft,hse]
def DigR(args:ZA)(H:Hp)(r:AR):Prop:=
 ∃(b o:Nat)(kc:Option Nat)(l v:ZN),args=[.sl b o (v.length+1) 1 kc,.fs (nats .u64 v) v.length]∧H.get b=some (.cells (nats .u64 l))∧DigOK (seg l o v.length) v∧o+v.length+1≤l.length∧okL l∧l.length≤1000000∧
  (∀b x,H.get b=some x→b<H.next)∧
  r=⟨True,.int .u64 (valL (seg l o v.length)/valL v:Nat),H.put b (.cells (nats .u64 (mid l o (v.length+1) (digs (v.length+1) (valL (seg l o v.length)%valL v))))),[b],[b]⟩
def dgC_ok:∀args H r,DigR args H r→HCall prog 191 args H r:=by
 rintro args H r ⟨b,o,kc,l,v,rfl,hb,hd,h1,h2,h3,hk,rfl⟩;refine XH (zy6 l v o hd h1 h2 h3) (.int _ _) (zaH _ _) (zaH _ _) b _ H ⟨rfl,fun i x y hx hy=>?_⟩ hb hk;match i with
 |0=>cases hx;cases hy;exact .sl (π:=fun i=>[b].getD i 0) (b:=0) (YaH.2 rfl) (.inl rfl)
 |1=>cases hx;cases hy;exact .same (.fs (zaH _ _))
 |i+2=>simp at hx
def dgC_uniq {args:ZA}{H:Hp}{r r':AR}(h:DigR args H r)(h':DigR args H r'):r'=r:=by obtain⟨b,o,kc,l,v,rfl,hb,_,_,_,_,_,rfl⟩:=h;obtain⟨b',o',kc',l',v',he,hb',_,_,_,_,_,rfl⟩:=h';simp only[Yw,V.sl.injEq,V.fs.injEq,Yap,Yaf]at he;obtain⟨⟨rfl,rfl,_,rfl⟩,e,_⟩:=he;obtain rfl:=zaI e;rw[hb]at hb';simp only[YJ,Blk.cells.injEq]at hb';rw[zaI hb']
def dgC_eq(b o:Nat)(kc:Option Nat)(l v:ZN)(H:Hp)(hb:H.get b=some (.cells (nats .u64 l)))(hd:DigOK (seg l o v.length) v)(h1:o+v.length+1≤l.length)(h2:okL l)(h3:l.length≤1000000)(hk:∀b x,H.get b=some x→b<H.next):conD DigR [.sl b o (v.length+1) 1 kc,.fs (nats .u64 v) v.length] H=some ⟨True,.int .u64 (valL (seg l o v.length)/valL v:Nat),H.put b (.cells (nats .u64 (mid l o (v.length+1) (digs (v.length+1) (valL (seg l o v.length)%valL v))))),[b],[b]⟩:=by have hr:DigR [.sl b o (v.length+1) 1 kc,.fs (nats .u64 v) v.length] H ⟨True,.int .u64 (valL (seg l o v.length)/valL v:Nat),H.put b (.cells (nats .u64 (mid l o (v.length+1) (digs (v.length+1) (valL (seg l o v.length)%valL v))))),[b],[b]⟩:=⟨b,o,kc,l,v,rfl,hb,hd,h1,h2,h3,hk,rfl⟩;exact zat hr fun _ h'=>dgC_uniq hr h'
def ΔD:FuncId→ZA→Hp→Option AR:=za8 190 (conD zgu) (za8 191 (conD DigR) (za8 156 (conD zqE) noΔ))
def zg8:zaP prog ΔD:=zJ (zV ztg) (zJ (zV dgC_ok) (zJ (zV zqZ) zf))
def zh0 {X k:Nat}(hk:k<1000000000):(limbs (X*k)).length≤(limbs X).length+1:=by apply zaO;have h1:=valL_lt (zI X);rw[zG]at h1;rw[YM];exact Nat.mul_lt_mul'' h1 hk
def zfp:∀l:ZN,(zaw l).length≤l.length
 |[]=>Yc _
 |d::l=>by
  have:=zfp l;unfold zaw;split
  ·simp
  simpa using this
def zhj:∀l:ZN,l.take (zaw l).length=zaw l
 |[]=>rfl
 |d::l=>by
  have:=zhj l;unfold zaw;split
  ·simp
  simpa using this
def zgm(x m:Nat)(h:(limbs x).length≤m):digs m x=limbs x++List.replicate (m-(limbs x).length) 0:=by
 have ok:okL (limbs x++List.replicate (m-(limbs x).length) 0):=okL_append.2 ⟨zI x,fun d hd=>by have:=YaO hd;omega⟩;have hz:∀j,valL (List.replicate j 0)=0:=by
  intro j;induction j with
  |zero=>rfl
  |succ j ih=>rw[Ybo,valL,ih]
 have:=zgl ok;rw[zaG,hz,Y9,Y3,zG,Yd,YK]at this;rw[this,Nat.add_sub_cancel' h]
def zy5(X Y:Nat)(hX:(limbs X).length≤500)(hYl:(limbs Y).length≤500)(hY:Y≠0):PCall prog 177 [.fs (nats .u64 (limbs X)) (limbs X).length,.fs (nats .u64 (limbs Y)) (limbs Y).length] (.ret (.tup [.fs (nats .u64 (limbs (X/Y))) (limbs (X/Y)).length,.fs (nats .u64 (limbs (X%Y))) (limbs (X%Y)).length])):=by
 have hΓ:=zg zeu (zh (P:=prog));refine Xc (rs:=[.tmp 4,.tmp 5]) [0,1,4,5,6,7,8,9,10,11,12,13,14,18,39,49,50,51,74,75,76] [] mixed (hΓ) (zg8) call177 func177 rfl ntmps177 rfl ?_;simp(disch:=try exact Zq)only[go_sem];refine Xb (fun h1=>?_) (fun h1=>?_)
 ·have h2:X<Y:=by
   rw[zbH]at h1;split at h1
   ·assumption
   split at h1<;>omega
  rw[Yb7 h2,Yb8 h2];simp only[go_sem,zaL]
 have h2:Y≤X:=by rw[zbH]at h1;split at h1<;>omega
 obtain⟨n,hn⟩:∃n,n=(limbs Y).length:=⟨_,rfl⟩;have hyl:=zcB hY;rw[←hn]at hyl;have hyt:=getD_lt (zI Y) (n-1);obtain⟨k,hk⟩:∃k,k=1000000000/((limbs Y).getD (n-1) 0+1):=⟨_,rfl⟩;obtain⟨k0,k1,k2⟩:=norm_len hn hY hk;have hkI:(1000000000:Int)/(((limbs Y).getD (n-1) 0:Nat)+1)=(k:Int):=by rw[hk,Int.natCast_ediv];rfl
 have hn0:0<n:=by
  rcases YT n with h0|h0
  ·rw[h0]at hn;exact absurd (limbs_nil.1 (YB hn.symm)) hY
  exact h0
 have hm0:0<(limbs X).length:=by
  rcases YT (limbs X).length with h0|h0
  ·have:=limbs_nil.1 (YB h0);omega
  exact h0
 obtain⟨m,hm⟩:∃m,m=(limbs X).length+1:=⟨_,rfl⟩;have hnm:n<m:=by refine YbG ?_ (show (limbs X).length<m by omega);rw[hn];refine Yaa fun hlt=>?_;have:=zaV hlt;omega
 have hstart:=DivInv.start hm0 hm hn hY h2 k1 k0 k2 hnm;have hS1:ΔD 190 [.fs (nats .u64 (limbs X)) (limbs X).length,.int .u64 k] ⟨[],0⟩=some ⟨True,.sl 0 0 (limbs (X*k)).length 1 none,⟨[(0,.cells (nats .u64 (digs m (X*k))))],1⟩,[],[]⟩:=by rw[hm];exact zjm X k Zo k1 [] 0 rfl
 have hS2:∀B,ΔD 190 [.fs (nats .u64 (limbs Y)) n,.int .u64 k] ⟨[(0,.cells B)],1⟩=some ⟨True,.sl 1 0 n 1 none,⟨[(1,.cells (nats .u64 (digs (n+1) (Y*k)))),(0,.cells B)],2⟩,[],[]⟩:=fun B=>by have:=zjm Y k Zo k1 [(0,.cells B)] 1 rfl;rw[k2,←hn]at this;exact this
 obtain⟨m0,hm0'⟩:∃m0,m0=(limbs (X*k)).length:=⟨_,rfl⟩;have hXk:=zgm (X*k) m (by rw[hm];exact zh0 k1);have hle1:m0≤m:=by rw[hm0',hm];exact zh0 k1
 have hle2:m≤m0+1:=by rw[hm0',hm];refine Nat.add_le_add_right (Yaa fun hlt=>?_) 1;have h3:=zaV hlt;have h4:X≤X*k:=Nat.le_mul_of_pos_right _ k0;omega
 simp(disch:=try exact Zq)only[go_sem,←hn,hkI,hS1,hS2,←hm0'];refine⟨⟨Zo,Zo⟩,Zo,Zo,?_⟩;refine AXs.loop mixed (hΓ) (zg8) (fun e:Nat=>[(0,.fs (nats .u64 (limbs X)) (limbs X).length),(6,.int .i64 n),(7,.int .u64 k),(8,.sl 0 0 (m0+e) 1 none),(9,.sl 1 0 n 1 none)]) (fun _=>⟨[(1,.cells (nats .u64 (digs (n+1) (Y*k)))),(0,.cells (nats .u64 (digs m (X*k))))],2⟩) (fun e=>m0+e≤m) (fun e=>m-(m0+e)) 0 Zk hle1 (Xa [] rfl rfl ?_ ?_) ?_
 ·simp only[go_sem]
 ·simp only[go_sem]
 rintro e he;simp(disch:=try exact Zq)only[go_sem];refine Xb (fun h3=>?_) (fun h3=>?_)
 ·have he0:e=0:=Zo;subst he0;have hm1:m=m0+1:=Zo;have hdl:=zdP m (X*k);have hcat:List.take m0 (digs m (X*k))++[0]=digs m (X*k):=by rw[hXk,←hm0',Yci hm0'.symm,hm1,YbQ];rfl
  simp(disch:=try exact Zq)only[go_sem];refine⟨⟨Zo,Zo,Zo⟩,?_⟩;refine zi 1 Zo Zo (Xa [(0,3)] rfl rfl ?_ ?_)
  ·simp only[go_sem]
  simp only[go_sem];rw[show ([V.int .u64 0]:ZA)=nats .u64 [0]from rfl];conv=>rhs;rw[←hcat]
  simp[nats]
 have hme:m0+e=m:=Zo;have hln:=zdP m (X*k);have hlv:=zdP (n+1) (Y*k);have hYk:=zgm (Y*k) (n+1) Zo;rw[k2,show n+1-n=1 by omega]at hYk;rw[hme];simp(disch:=try exact Zq)only[go_sem];refine AXa.fz [1] rfl rfl rfl (env':=[(6,.int .i64 n),(7,.int .u64 k),(8,.sl 0 0 m 1 none),(9,.fs (nats .u64 (limbs (Y*k))) n)]) (bs':=[(0,.cells (nats .u64 (digs m (X*k))))]) (n':=2) ?_ ?_ ?_
 ·simp only[go_sem];refine⟨.inl ⟨Zs,rfl⟩,.inr ?_⟩;exact FrzF.slp Zs rfl Zo (by rw[zQ,hlv];omega) (by rw[Y1,Yag,zbT,hYk,Yci (by rw[k2])]) (zaH _ _)
 ·simp only[go_sem];simp
 refine AXa.go mixed (hΓ) (zg8) Zk ?_;simp(disch:=try exact Zq)only[go_sem,zq0,zln];refine⟨⟨Zo,Zo,Zo,Zo⟩,?_⟩;have hvt:=zcB (n:=Y*k) (by have:=Yb5 (YbV hY) k0;omega);have okV:=zI (Y*k);have hfin:∀q u,DivInv (X*k) (limbs (Y*k)) m 0 q u→zaw q=limbs (X/Y)∧zaw u=limbs (X%Y*k):=fun q u h=>by have:=h.done;rw[zG,Nat.mul_div_mul_right _ _ k0,Nat.mul_mod_mul_right]at this;exact this
 generalize limbs (Y*k)=VV at*;subst k2;refine AXs.loop mixed (hΓ) (zg8) (fun p:Nat×ZN×ZN=>[(4,.sl 2 0 (m-VV.length) 1 (some (m-VV.length))),(6,.int .i64 VV.length),(7,.int .u64 k),(8,.sl 0 0 m 1 none),(9,.fs (nats .u64 VV) VV.length),(49,.int .i64 (m-VV.length:Nat)),(50,.int .i64 p.1)]) (fun p=>⟨[(2,.cells (nats .u64 p.2.1)),(0,.cells (nats .u64 p.2.2))],3⟩)
  (fun p=>p.1≤m-VV.length∧DivInv (X*k) VV m (m-VV.length-p.1) p.2.1 p.2.2) (fun p=>m-VV.length-p.1) (0,List.replicate (m-VV.length) 0,digs m (X*k)) Zk ⟨Yk _,hstart⟩ (Xa [] rfl rfl ?_ ?_) ?_
 ·simp only[go_sem]
 ·simp only[go_sem]
 rintro⟨i,q,u⟩ ⟨hi,hinv⟩;dsimp only at hi hinv ⊢;have lu:=hinv.lu;have lq:=hinv.lq;simp(disch:=try exact Zq)only[go_sem];refine Xb (fun h4=>?_) (fun h4=>?_)
 ·obtain⟨a,ha⟩:∃a,a=m-VV.length-1-i:=⟨_,rfl⟩;rw[show m-VV.length-i=a+1 by omega]at hinv;obtain⟨hdig,_,_⟩:=hinv.segm okV hn0 (YbV hvt) Zo;have hstep:=hinv.step okV hn0 (YbV hvt) Zo;have hai:((m-VV.length:Nat):Int)-1-(i:Int)=(a:Int):=Zo;have hD:ΔD 191 [.sl 0 a (a+VV.length+1-a) 1 none,.fs (nats .u64 VV) VV.length] ⟨[(2,.cells (nats .u64 q)),(0,.cells (nats .u64 u))],3⟩=
   some ⟨True,.int .u64 (valL (seg u a VV.length)/valL VV:Nat),⟨[(2,.cells (nats .u64 q)),(0,.cells (nats .u64 (mid u a (VV.length+1) (digs (VV.length+1) (valL (seg u a VV.length)%valL VV)))))],3⟩,[0],[0]⟩:=by
   rw[show a+VV.length+1-a=VV.length+1 by omega]
   exact dgC_eq 0 a none u VV ⟨[(2,.cells (nats .u64 q)),(0,.cells (nats .u64 u))],3⟩ rfl hdig Zo hinv.ou Zo (zaX rfl)
  generalize valL (seg u a VV.length)/valL VV=dd at*;generalize mid u a (VV.length+1) (digs (VV.length+1) (valL (seg u a VV.length)%valL VV))=u' at*;simp(disch:=try exact Zq)only[go_sem,hai,hD];refine⟨⟨Zo,Zo,Zo⟩,⟨Zo,Zo⟩,Zo,?_⟩;refine zi (i+1,q.set a dd,u') ⟨by dsimp only;omega,?_⟩ (by dsimp only;omega) (Xa [] rfl rfl ?_ ?_)
  ·dsimp only;rw[show m-VV.length-(i+1)=a by omega];exact hstep
  ·simp only[go_sem];simp
  simp only[go_sem]
 have hie:i=m-VV.length:=Zo;subst hie;rw[Ybz]at hinv;obtain⟨e1,e2⟩:=hfin q u hinv;have oq:=hinv.oq;have ou:=hinv.ou;have hT:∀Bq,ΔD 156 [.sl 0 0 m 1 none] ⟨[(2,.cells Bq),(0,.cells (nats .u64 u))],3⟩=some ⟨True,.sl 0 0 (limbs (X%Y*k)).length 1 none,⟨[(2,.cells Bq),(0,.cells (nats .u64 u))],3⟩,[0],[]⟩:=fun Bq=>by have:=zgR 0 m none u [(2,.cells Bq),(0,.cells (nats .u64 u))] 3 rfl Zo Zo rfl;rw[Yl Zo,e2]at this;exact this
 simp(disch:=try exact Zq)only[go_sem];refine AXa.go mixed (hΓ) (zg8) Zk ?_;simp(disch:=try exact Zq)only[go_sem,hT];have hu:u=limbs (X%Y*k)++List.replicate (m-(limbs (X%Y*k)).length) 0:=by
  have h5:=zgl ou;have h6:valL u=X%Y*k:=zch (by rw[←za0 ou,e2]);rw[lu,h6]at h5;rw[←zgm _ _ ?_]
  ·exact h5
  rw[←e2,←lu];exact zfp u
 have hlr:(limbs (X%Y*k)).length≤1000:=by have:=YaZ List.length hu;rw[Yd]at this;omega
 have hrd:=fun r c=>rem_done (z:=X%Y) (r:=r) (c:=c) k0;have hrs:=zwR (r0:=limbs (X%Y*k)) k0 (zI _);clear hT e2 ou hinv;generalize limbs (X%Y*k)=r0 at*;generalize List.replicate (m-r0.length) 0=z at*;subst hu;refine AXs.loop mixed (hΓ) (zg8) (fun p:Nat×ZN×Nat=>[(4,.sl 2 0 (m-VV.length) 1 (some (m-VV.length))),(5,.sl 0 0 r0.length 1 none),(7,.int .u64 k),(12,.int .u64 p.2.2),(74,.int .i64 r0.length),(75,.int .i64 p.1)]) (fun p=>⟨[(2,.cells (nats .u64 q)),(0,.cells (nats .u64 (p.2.1++z)))],3⟩)
  (fun p=>p.1≤r0.length∧zmG k r0 (r0.length-p.1) p.2.1 p.2.2) (fun p=>r0.length-p.1) (0,r0,0) Zk ⟨Yk _,hrs⟩ (Xa [] rfl rfl ?_ ?_) ?_
 ·simp only[go_sem]
 ·simp only[go_sem]
 rintro⟨i,r,c⟩ ⟨hi,hr⟩;dsimp only at hi hr ⊢;have lr:=hr.1;simp(disch:=try exact Zq)only[go_sem];refine Xb (fun h4=>?_) (fun h4=>?_)
 ·obtain⟨e,he⟩:∃e,e=r0.length-1-i:=⟨_,rfl⟩;rw[show r0.length-i=e+1 by omega]at hr;obtain⟨hst,hb⟩:=rem_step k1 Zo hr;have hei:((r0.length:Nat):Int)-1-(i:Int)=(e:Int):=Zo;have hg:(r++z).getD e 0=r.getD e 0:=by rw[Ya,YQ Zo,Ya]
  have hset:∀d,(r++z).set e d=r.set e d++z:=fun d=>List.set_append_left _ _ Zo;obtain⟨R9,hR9⟩:∃R9,R9=c*1000000000:=⟨_,rfl⟩;have hR:(c:Int)*1000000000=(R9:Int):=Zo;obtain⟨T,hT⟩:∃T,T=R9+r.getD e 0:=⟨_,rfl⟩;have hT':(R9:Int)+((r.getD e 0:Nat):Int)=(T:Int):=Zo;rw[←hR9,←hT]at hst hb;have hdv:(T:Int)/(k:Int)=((T/k:Nat):Int):=(Int.natCast_ediv ..).symm;have hmd:(T:Int)%(k:Int)=((T%k:Nat):Int):=(Int.natCast_emod ..).symm;have hdk:T/k≤T:=Ych ..;have hmk:T%k≤T:=Nat.mod_le ..;have lrz:(r++z).length=r.length+z.length:=Yd;generalize T/k=td at*;generalize T%k=tm at*;simp(disch:=try exact Zq)only[go_sem,hei,hg,hR,hT',hdv,hmd];refine⟨⟨Zo,Zo⟩,Zo,Zo,Zo,⟨Zo,Zo⟩,Zo,AXk.intro Zk ?_⟩;simp(disch:=try exact Zq)only[go_sem];refine zi (i+1,r.set e td,tm) ⟨by dsimp only;omega,?_⟩ (by dsimp only;omega) (Xa [] rfl rfl ?_ ?_)
  ·dsimp only;rw[show r0.length-(i+1)=e by omega];exact hst
  ·simp only[go_sem];simp
  simp only[go_sem];rw[hset]
 have hie:i=r0.length:=Zo;subst hie;rw[Ybz]at hr;have e2:=hrd r c hr;simp(disch:=try exact Zq)only[go_sem];refine AXa.go mixed (hΓ) (zg8) Zk ?_;have hT1:ΔD 156 [.sl 2 0 (m-VV.length) 1 (some (m-VV.length))] ⟨[(2,.cells (nats .u64 q)),(0,.cells (nats .u64 (r++z)))],3⟩=some ⟨True,.sl 2 0 (limbs (X/Y)).length 1 none,⟨[(2,.cells (nats .u64 q)),(0,.cells (nats .u64 (r++z)))],3⟩,[2],[]⟩:=by have:=zgR 2 (m-VV.length) (some (m-VV.length)) q [(2,.cells (nats .u64 q)),(0,.cells (nats .u64 (r++z)))] 3 rfl Zo Zo rfl;rw[Yl Zo,e1]at this;exact this
 have hT2:ΔD 156 [.sl 0 0 r0.length 1 none] ⟨[(2,.cells (nats .u64 q)),(0,.cells (nats .u64 (r++z)))],3⟩=some ⟨True,.sl 0 0 (limbs (X%Y)).length 1 none,⟨[(2,.cells (nats .u64 q)),(0,.cells (nats .u64 (r++z)))],3⟩,[0],[]⟩:=by have:=zgR 0 r0.length none (r++z) [(2,.cells (nats .u64 q)),(0,.cells (nats .u64 (r++z)))] 3 rfl (by rw[Yd];omega) (by rw[Yd]at *; omega) rfl;rw[Yci Zo,e2]at this;exact this
 simp(disch:=try exact Zq)only[go_sem,hT1,hT2];have p1:=zhj q;have p2:=zhj r;have p3:=zfp q;have p4:=zfp r;rw[e1]at p1 p3;rw[e2]at p2 p4;refine⟨Frz.slp rfl rfl (by rw[zQ];omega) ?_ (zaH _ _),Frz.slp rfl rfl (by rw[zQ,Yd];omega) ?_ (zaH _ _)⟩
 ·rw[Y1,Yag,zbT,p1]
 rw[Y1,Yag,zbT,List.take_append_of_le_length p4,p2]
def subV(a b:ZL):V:=if zH a=true∧zH b=true then(if valD a<valD b then errV 4 else .tup [.str (dec (valD a-valD b)),.int .i64 0])else errV 1
def cmpV(a b:ZL):Int:=if zH a=true∧zH b=true then cmpI (valD a) (valD b)else 0
def zxN(hT:ziF)(a b:ZL):PCall prog 152 [.str a,.str b] (.ret (subV a b)):=by
 refine Xc (rs:=[.tmp 4,.tmp 5]) [0,1,4,5,6,7,15,23] [] mixed (zg zdt (zg zdv (zg zeu (zg zvk (zg (zlF hT) zh))))) (zf) call152 func152 rfl ntmps152 rfl ?_;by_cases ha:zH a=true
 case neg=>simp only[go_sem,subV,ha,errV]
 by_cases hb:zH b=true
 case neg=>simp only[go_sem,subV,ha,hb,errV]
 have da:=zah ha;have la:=zW ha;have db:=zah hb;have lb:=zW hb;have ba:=zbO da la;have bb:=zbO db lb;simp(disch:=try exact Zq)only[go_sem,ha,hb];refine Xb (fun h1=>?_) (fun h1=>?_)
 ·have h2:valD a<valD b:=by
   rw[zbH]at h1;split at h1
   ·assumption
   split at h1<;>omega
  simp(disch:=try exact Zq)only[go_sem,subV,ha,hb,h2,errV]
 have h2:valD b≤valD a:=by
  rw[zbH]at h1;split at h1
  ·omega
  omega
 have h3:¬valD a<valD b:=Zo;have bs:=zm4 (y:=valD b) ba;simp(disch:=try exact Zq)only[go_sem,subV,ha,hb,h3]
def zxQ(a b:ZL):PCall prog 151 [.str a,.str b] (.ret (.int .i64 (cmpV a b))):=by
 refine Xc (rs:=[.tmp 4]) [0,1,4,12] [] mixed (zg zdt (zg zdv (zg zeu zh))) (zf) call151 func151 rfl ntmps151 rfl ?_;by_cases ha:zH a=true
 case neg=>simp only[go_sem,cmpV,ha]
 by_cases hb:zH b=true
 case neg=>simp only[go_sem,cmpV,ha,hb]
 have da:=zah ha;have la:=zW ha;have db:=zah hb;have lb:=zW hb;have ba:=zbO da la;have bb:=zbO db lb;simp(disch:=try exact Zq)only[go_sem,cmpV,ha,hb]
def ztn(a:ZL):PCall prog 163 [.str a] (.ret (.bool (zH a))):=by
 refine Xc (rs:=[.tmp 2]) [0,2,3,21,25,37] [] mixed (zh) (zf) call163 func163 rfl ntmps163 rfl ?_;simp only[go_sem];have hb:(decide ((a.length:Int)<1)||decide (1000<(a.length:Int))||decide (((a.getD 0 0).toNat:Int)=48)&&decide (1<(a.length:Int)))= !(!decide (a=[])&&decide (a.length≤1000)&&(decide (a.length≤1)|| !decide ((a.getD 0 0).toNat=48))):=by
  have e1:(a.length:Int)<1↔a=[]:=by rw[←List.length_eq_zero_iff];omega
  have e2:1000<(a.length:Int)↔¬a.length≤1000:=Zo;have e3:((a.getD 0 0).toNat:Int)=48↔(a.getD 0 0).toNat=48:=Zo;have e4:1<(a.length:Int)↔¬a.length≤1:=Zo;simp only[e1,e2,e3,e4];by_cases c1:a=[]<;>by_cases c2:a.length≤1000<;>by_cases c3:(a.getD 0 0).toNat=48<;>by_cases c4:a.length≤1<;>simp only[c1,c2,c3,c4,YbD,YcD]<;>rfl
 refine⟨fun h=>⟨h,?_⟩,fun h=>⟨h,fun h'=>by rw[h,h'];rfl⟩,?_⟩
 ·simp at h;omega
 rw[hb];cases hc:(!decide (a=[])&&decide (a.length≤1000)&&(decide (a.length≤1)|| !decide ((a.getD 0 0).toNat=48)))with
 |false=>simp only[go_sem];simp only[zH,hc,Yah]
 |true=>
  have hl:a.length≤1000:=by simp at hc;omega
  simp only[go_sem];refine AXs.loop mixed (zh) (zf) (fun i:Nat=>[(0,.str a),(3,.int .i64 i)]) (fun _=>⟨[],0⟩) (fun i=>i≤a.length∧∀j,j<i→zaT (a.getD j 0)=true) (fun i=>a.length-i) 0 Zk Zs (Xa [] rfl rfl ?_ ?_) ?_
  ·simp only[go_sem]
  ·simp only[go_sem]
  rintro i ⟨h1,h2⟩;simp only[go_sem];refine Xb (fun h3=>?_) (fun h3=>?_)
  ·simp(disch:=try exact Zq)only[go_sem]
   (repeat refine sdC ?_);have hd:(decide (((a.getD i 0).toNat:Int)<48)||decide (57<((a.getD i 0).toNat:Int)))= !zaT (a.getD i 0):=by unfold zaT;have e1:((a.getD i 0).toNat:Int)<48↔¬48≤(a.getD i 0).toNat:=Zo;have e2:57<((a.getD i 0).toNat:Int)↔¬(a.getD i 0).toNat≤57:=Zo;simp only[e1,e2];by_cases c1:48≤(a.getD i 0).toNat<;>by_cases c2:(a.getD i 0).toNat≤57<;>simp only[c1,c2,YbD,YcD]<;>rfl
   rw[hd];cases hg:zaT (a.getD i 0)with
   |false=>
    simp only[go_sem];have:a.all zaT=false:=by
     cases e:a.all zaT with
     |false=>rfl
     |true=>rw[all_getD.1 e i Zo]at hg;cases hg
    simp only[zH,this,YbO]
   |true=>
    simp(disch:=try exact Zq)only[go_sem];refine zi (i+1) ⟨Zo,fun j hj=>?_⟩ Zo (Xa [] rfl rfl ?_ ?_)
    ·by_cases hji:j<i
     ·exact h2 j hji
     obtain rfl:j=i:=Zo;exact hg
    ·simp only[go_sem];simp
    simp only[go_sem]
  simp only[go_sem];refine AXa.go mixed (zh) (zf) Zk ?_;simp only[go_sem];have:a.all zaT=true:=all_getD.2 fun i hi=>h2 i Zo;simp only[zH,this,hc,YaC]
def zsb:ZV:=zC (fun a:ZL=>[.str a]) (fun _=>True) fun a=>.ret (.bool (zH a))
def zqb(a:ZL):zsb [.str a]=some (.ret (.bool (zH a))):=zo (pat:=fun a:ZL=>[.str a]) (fun x y h=>by simpa using h) a trivial
def za5:ZC zsb 163:=zn fun a _=>ztn a
attribute [go_sem] zqb
def digD(a:ZL):ZN:=a.reverse.map fun c=>c.toNat-48
def zcv(a:ZL):(digD a).length=a.length:=by simp[digD]
def zy8(a:ZL)(m:Nat)(h:m<a.length):digD (a.drop m)=digD (a.drop (m+1))++[(a.getD m 0).toNat-48]:=by
 have:a.drop m=a.getD m 0::a.drop (m+1):=by rw[Ya,Yb h];exact Yas h
 rw[this,digD,Ycn,YV];rfl
def zcY:∀a:ZL,Ten.valL (digD a)=valD a:=by
 have key:∀l:ZL,Ten.valL (l.map fun c=>c.toNat-48)=valD l.reverse:=by
  intro l;induction l with
  |nil=>rfl
  |cons c l ih=>rw[YN,Ten.valL,ih,Ycn,zbR];omega
 intro a;have:=key a.reverse;rw[List.reverse_reverse]at this;exact this
def zeo {a:ZL}(h:a.all zaT=true):Ten.okL (digD a):=fun d hd=>by obtain⟨c,hc,rfl⟩:=Yab.1 hd;have:=zbG (Yo.1 h c (by simpa using hc));omega
def acV(l:ZN):V:=match l with|[]=>.nilS|_=>.sl 0 0 l.length 1 none
def acBs(k:IntKind)(l:ZN):ZH:=match l with|[]=>[]|_=>[(0,.cells (nats k l))]
def acN(l:ZN):Nat:=match l with|[]=>0|_=>1
def ztE(a:ZL)(hd:a.all zaT=true)(hl:a.length≤100000):PCall prog 165 [.str a] (.ret (.fs (nats .i64 (digD a)) a.length)):=by
 refine Xc (rs:=[.tmp 2]) [0,2,3,4,9] [] mixed (zh) (zf) call165 func165 rfl ntmps165 rfl ?_;simp only[go_sem];refine AXs.loop mixed (zh) (zf) (fun m:Nat=>[(0,.str a),(3,acV (digD (a.drop m))),(4,.int .i64 ((m:Int)-1))]) (fun m=>⟨acBs .i64 (digD (a.drop m)),acN (digD (a.drop m))⟩) (fun m=>m≤a.length) (fun m=>m) a.length Zk (Yc _) (Xa [] rfl ?_ ?_ ?_) ?_
 ·rw[List.drop_length];rfl
 ·simp(disch:=try exact Zq)only[go_sem,List.drop_length,digD,List.reverse_nil,acV]
 ·simp only[go_sem,List.drop_length,digD,List.reverse_nil,acBs]
 intro m h1;simp only[go_sem];have hl':(digD (a.drop m)).length=a.length-m:=by rw[zcv];simp
 rcases YT m with rfl|h0
 ·simp only[go_sem];rw[Y1]at hl';have e0:a.length=(digD a).length:=Zo;rw[e0];generalize digD a=l;rcases l with _|⟨d,l⟩
  ·simp only[go_sem,acV,acBs,acN];refine AXa.go mixed (zh) (zf) Zk ?_;simp only[go_sem]
  simp only[go_sem,acV,acBs,acN];refine AXa.go mixed (zh) (zf) Zk ?_;simp only[go_sem];exact Frz.slp rfl rfl (by simp[zQ]) (by simp[zbT]) (zaH _ _)
 have hm:m-1<a.length:=Zo;have hdr:=zy8 a (m-1) hm;rw[show m-1+1=m by omega]at hdr;have hdi:=zbG (all_getD.1 hd (m-1) hm);have c0:¬((m:Int)-1<0):=Zo;have c1:decide (0≤(m:Int)-1)=true:=Yf Zo;have c2:((m:Int)-1).toNat=m-1:=Zo;have hx:((a.getD (m-1) 0).toNat:Int)-48=(((a.getD (m-1) 0).toNat-48:Nat):Int):=Zo;generalize digD (a.drop m)=l at hdr hl' ⊢;rcases l with _|⟨d,l⟩
 ·simp(disch:=try exact Zq)only[go_sem,acV,acBs,acN,c1,c2,hx]
  (repeat refine sdC ?_);refine zi (m-1) Zo Zo (Xa [(0,1)] rfl (by rw[hdr];rfl) ?_ ?_)
  ·rw[hdr];simp only[go_sem,acV,acBs,acN];simp only[V.int.injEq,Yaf];omega
  rw[hdr];simp only[go_sem,acV,acBs,acN];simp[nats]
 simp(disch:=try exact Zq)only[go_sem,acV,acBs,acN,c1,c2,hx];have hll:l.length+1=a.length-m:=hl'
 (repeat refine sdC ?_);refine zi (m-1) Zo Zo (Xa [(0,2)] rfl (by rw[hdr];rfl) ?_ ?_)
 ·rw[hdr];simp only[go_sem,acV,acBs,acN];simp;omega
 rw[hdr];simp only[go_sem,acV,acBs,acN];simp[nats]
def zeJ:ZV:=zC (fun a:ZL=>[.str a]) (fun a=>a.all zaT=true∧a.length≤100000) fun a=>.ret (.fs (nats .i64 (digD a)) a.length)
def zcP(a:ZL)(h:a.all zaT=true)(hl:a.length≤100000):zeJ [.str a]=some (.ret (.fs (nats .i64 (digD a)) a.length)):=zo (pat:=fun a:ZL=>[.str a]) (fun x y h=>by simpa using h) a ⟨h,hl⟩
def zb9:ZC zeJ 165:=zn fun a h=>ztE a h.1 h.2
attribute [go_sem] zcP
def zfe:∀ {l:ZN},Ten.okL l→bytesOf (nats .u8 (l.map (48+·)))=some (l.map dg)
 |[],_=>rfl
 |d::l,h=>by have ih:=zfe (l:=l) fun x hx=>h x (YD _ hx);simp only[YN,nats]at ih ⊢;unfold bytesOf;rw[ih];have e:(((48+d:Nat):Int)).toNat=48+d:=Zo;rw[e];rfl
def accT(l:ZN)(n m:Nat):ZN:=((l.take n).drop m).reverse.map (48+·)
def zBl(l:ZN)(n:Nat):accT l n n=[]:=by simp[accT,Yb4]
def accT_len(l:ZN)(n m:Nat)(h:n≤l.length):(accT l n m).length=n-m:=by simp[accT];omega
def zBk(l:ZN)(n m:Nat)(h:m<n)(hn:n≤l.length):accT l n m=accT l n (m+1)++[48+l.getD m 0]:=by
 have:(l.take n).drop m=l.getD m 0::(l.take n).drop (m+1):=by rw[Yas (by simp;omega)];rw[List.getElem_take,Ya,Yb Zo];rfl
 rw[accT,this,Ycn,YV];rfl
def zcV {l:ZN}(ok:Ten.okL l)(i:Nat):l.getD i 0≤9:=by
 by_cases h:i<l.length
 ·rw[Ya,Yb h];have:=ok _ (Y6 h);exact Nat.le_of_lt_succ this
 rw[za2 _ _ _ Zo];omega
def rnb_tyF {π:Nat→Nat}{N:Nat→Prop}(t:TypeId)(cs cs':ZA):RnB π N (.ty t cs) (.ty t cs')↔LRel (Rn π N) cs cs':=⟨fun h=>by cases h;assumption,.ty⟩
attribute [go_sem] rnb_tyF
def acBt(t:TypeId)(l:ZN):ZH:=match l with|[]=>[]|_=>[(0,.ty t (nats .u8 l))]
def rtext_ok(l:ZN)(hl:l.length≤1000000)(ok:Ten.okL l):PCall prog 168 [.fs (nats .i64 l) l.length] (.ret (.str (dec (Ten.valL l)))):=by
 refine Xc (rs:=[.tmp 2]) [0,2,3,4,5,17,23,37] [] mixed (zh) (zf) call168 func168 rfl ntmps168 rfl ?_;simp only[go_sem];refine AXs.loop mixed (zh) (zf) (fun n:Nat=>[(0,.fs (nats .i64 l) l.length),(3,.int .i64 n)]) (fun _=>⟨[],0⟩) (fun n=>n≤l.length∧(0<l.length→0<n)∧∀j,n≤j→l.getD j 0=0) (fun n=>n) l.length Zk ⟨Yc _,fun h=>h,fun j hj=>za2 _ _ _ hj⟩ (Xa [] rfl rfl ?_ ?_) ?_
 ·simp only[go_sem]
 ·simp only[go_sem]
 rintro n ⟨h1,h1',h2⟩;have fin:(n≤1∨l.getD (n-1) 0≠0)→0<n→(l.take n).reverse.map dg=dec (Ten.valL l):=fun c d=>ten_text ok h1 h2 c d;rcases YT n with rfl|h0
 ·obtain rfl:l=[]:=YB Zo;simp(disch:=first|assumption|(push_cast<;>omega)|rfl|omega)only[go_sem];refine AXa.go mixed (zh) (zf) Zk ?_;simp only[go_sem];refine AXs.loop mixed (zh) (zf) (fun _:Nat=>[(0,.fs [] 0),(4,.nilS),(5,.int .i64 (-1))]) (fun _=>⟨[],0⟩) (fun n=>n=0) (fun n=>0) 0 Zk rfl (Xa [] rfl rfl ?_ ?_) ?_
  ·simp only[go_sem];intro x hx;cases hx
  ·simp only[go_sem]
  rintro _ rfl;simp(disch:=first|assumption|(push_cast<;>omega)|rfl|omega)only[go_sem];refine AXa.go mixed (zh) (zf) Zk ?_;simp only[go_sem];all_goals first|rfl|(intro x hx;cases hx)
 have hx:nthV (nats .i64 (l.drop (n-1))) 0=.int .i64 (l.getD (n-1) 0:Nat):=by rw[zfz _ _ _ (by simp;omega)];simp
 simp(disch:=first|assumption|(push_cast<;>omega)|rfl|omega)only[go_sem,hx]
 (repeat refine sdC ?_);have hb:(decide (1<(n:Int))&&decide (((l.getD (n-1) 0:Nat):Int)=0))=decide (1<n∧l.getD (n-1) 0=0):=by have e1:1<(n:Int)↔1<n:=Zo;have e2:((l.getD (n-1) 0:Nat):Int)=0↔l.getD (n-1) 0=0:=Zo;simp only[e1,e2,Bool.decide_and]
 rw[hb];refine Xb (fun h3=>?_) (fun h3=>?_)
 ·simp(disch:=first|assumption|(push_cast<;>omega)|rfl|omega)only[go_sem];refine zi (n-1) ⟨Zo,fun _=>Zo,fun j hj=>?_⟩ Zo (Xa [] rfl rfl ?_ ?_)
  ·by_cases hji:n≤j
   ·exact h2 j hji
   obtain rfl:j=n-1:=Zo;exact h3.2
  ·simp only[go_sem];simp only[V.int.injEq,Yaf];omega
  simp only[go_sem]
 simp(disch:=first|assumption|(push_cast<;>omega)|rfl|omega)only[go_sem];have h3':n≤1∨l.getD (n-1) 0≠0:=by
  by_cases e:n≤1
  ·exact .inl e
  exact .inr fun e'=>h3 ⟨Zo,e'⟩
 refine AXa.go mixed (zh) (zf) Zk ?_;simp only[go_sem];refine AXs.loop mixed (zh) (zf) (fun m:Nat=>[(0,.fs (nats .i64 l) l.length),(4,acV (accT l n m)),(5,.int .i64 ((m:Int)-1))]) (fun m=>⟨acBt 5 (accT l n m),acN (accT l n m)⟩) (fun m=>m≤n) (fun m=>m) n Zk (Yc _) (Xa [] rfl ?_ ?_ ?_) ?_
 ·rw[zBl];rfl
 ·simp(disch:=first|assumption|(push_cast<;>omega)|rfl|omega)only[go_sem,zBl,acV]
 ·simp only[go_sem,zBl,acBt]
 intro m hm;have hl':=accT_len l n m h1;simp only[go_sem];rcases YT m with rfl|hm0
 ·simp only[go_sem];have hlt:=fin h3' h0;have he:accT l n 0=(l.take n).reverse.map (48+·):=by simp[accT]
  have hb:=zfe (l:=(l.take n).reverse) fun d hd=>ok d (Ya9 (List.mem_reverse.1 hd));rw[←he,hlt]at hb;generalize accT l n 0=w at hl' hb ⊢;rcases w with _|⟨d,w⟩
  ·simp at hl';omega
  simp only[go_sem,acV,acBt,acN];refine AXa.go mixed (zh) (zf) Zk ?_;have c3:decide (((w.length+1:Nat):Int)=0)=false:=Ye Zo;have hcv:∀P:Program,P=prog→zcy P 28 9 (.sl 0 0 (w.length+1) 1 none) ⟨[(0,.ty 5 (nats .u8 (d::w)))],1⟩=⟨True,.str (dec (Ten.valL l)),⟨[(0,.ty 5 (nats .u8 (d::w)))],1⟩,[0],[]⟩:=by rintro _ rfl;exact zeI 28 9 5 _ (nats .u8 (d::w)) (w.length+1) [0] _ Zk Zk Zk (by show (if _∧_ then some _ else none)=_;rw[Yi ⟨rfl,by simp[nats]⟩];simp[nats,Yl]) hb
  simp(disch:=first|assumption|(push_cast<;>omega)|rfl|omega)only[go_sem,hb,c3,hcv]
 have hdr:=zBk l n (m-1) Zo h1;rw[Nat.sub_add_cancel hm0]at hdr;have c1:decide (0≤(m:Int)-1)=true:=Yf Zo;have c2:((m:Int)-1).toNat=m-1:=Zo;have hd9:l.getD (m-1) 0≤9:=zcV ok _;generalize accT l n m=w at hdr hl' ⊢;rcases w with _|⟨d,w⟩
 ·simp(disch:=first|assumption|(push_cast<;>omega)|rfl|omega)only[go_sem,acV,acBt,acN,c1,c2]
  (repeat refine sdC ?_);refine zi (m-1) Zo Zo (Xa [(0,1)] rfl (by rw[hdr];rfl) ?_ ?_)
  ·rw[hdr];simp only[go_sem,acV,acBt,acN];simp only[V.int.injEq,Yaf];omega
  rw[hdr];simp only[go_sem,acV,acBt,acN];simp[nats]
 have hll:w.length+1=n-m:=hl';simp(disch:=first|assumption|(push_cast<;>omega)|rfl|omega)only[go_sem,acV,acBt,acN,c1,c2]
 (repeat refine sdC ?_);refine zi (m-1) Zo Zo (Xa [(0,2)] rfl (by rw[hdr];rfl) ?_ ?_)
 ·rw[hdr];simp only[go_sem,acV,acBt,acN];simp;omega
 rw[hdr];simp only[go_sem,acV,acBt,acN];simp[nats]
end Go.Proofs
