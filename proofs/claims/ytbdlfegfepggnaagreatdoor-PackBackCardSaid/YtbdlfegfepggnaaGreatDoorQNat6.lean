import Derived.Test.YtbdlfegfepggnaaGreatDoorPlMid
set_option linter.all false
set_option maxHeartbeats 16000000
set_option maxRecDepth 100000
noncomputable section
namespace Go.Proofs
open Tryz Go.Ab Go.Pl
def zli {k:IntKind}{l:ZN}{n d:Nat}{v:Int}(h:v=(d:Nat)):(nats k l).set n (.int k v)=nats k (l.set n d):=by rw[h,zju]
def zpT(k:IntKind)(n:Nat):ints k (List.replicate n 0)=nats k (List.replicate n 0):=by simp[ints,nats]
def mulV(a b:ZL):V:=if zX a=true∧zX b=true then limV (valD a*valD b)else errV 1
def zvh(hT:zhK)(a b:ZL):PCall prog 130 [.str a,.str b] (.ret (mulV a b)):=by
 have hΓ:=zf zcS (zf zcU (zf zbT (zf (zhD hT) zh)));refine Xa (rs:=[.tmp 4,.tmp 5]) [0,1,4,5,6,7,8,9,10,11,12,20,33,34,35,39,40,41,54] [] mixed (hΓ) (zg) call130 func130 rfl ntmps130 rfl ?_;by_cases ha:zX a=true
 case neg=>simp only[go_sem,mulV,ha,errV]
 by_cases hb:zX b=true
 case neg=>simp only[go_sem,mulV,ha,hb,errV]
 have da:=zaT ha;have la:=zaS ha;have db:=zaT hb;have lb:=zaS hb;have ba:=zbr da la;have bb:=zbr db lb;have bm:=zlR ba bb;obtain⟨s,e,hse⟩:=zpK (valD a*valD b);have hres:mulV a b=.tup [.str s,.int .i64 e]:=by unfold mulV;rw[Yi ⟨ha,hb⟩,hse]
 rw[hres];have ox:=zI (valD a);have oy:=zI (valD b);have hfin:∀l,zcJ (limbs (valD a)) (limbs (valD b)) (limbs (valD a)).length l→zao l=limbs (valD a*valD b):=fun l h=>by rw[zpC h,zD,zD]
 simp(disch:=try exact Zq)only[go_sem,ha,hb];generalize limbs (valD a)=x at*;generalize limbs (valD b)=y at*;simp(disch:=try exact Zq)only[go_sem,zpf,zpT];refine⟨Zo,?_⟩;refine AXs.loop mixed (hΓ) (zg) (fun(p:Nat×ZN)=>[(6,.fs (nats .u64 x) x.length),(7,.fs (nats .u64 y) y.length),(8,.sl 0 0 (x.length+y.length+1) 1 (some (x.length+y.length+1))),(33,.int .i64 x.length),(34,.int .i64 p.1)]) (fun p=>⟨[(0,.cells (nats .u64 p.2))],1⟩)
  (fun p=>p.1≤x.length∧zcJ x y p.1 p.2) (fun p=>x.length-p.1) (0,List.replicate (x.length+y.length+1) 0) Zk ⟨Yk _,zlL x y⟩ (Xb [] rfl rfl ?_ ?_) ?_
 ·simp only[go_sem]
 ·simp only[go_sem]
 rintro⟨i,l0⟩ ⟨hi,ho⟩;dsimp only at hi ho ⊢;simp(disch:=try exact Zq)only[go_sem];refine Xc (fun h1=>?_) (fun h1=>?_)
 ·have hix:i<x.length:=Zo;simp(disch:=try exact Zq)only[go_sem];refine AXs.loop mixed (hΓ) (zg) (fun(p:Nat×ZN×Nat)=>[(6,.fs (nats .u64 x) x.length),(7,.fs (nats .u64 y) y.length),(8,.sl 0 0 (x.length+y.length+1) 1 (some (x.length+y.length+1))),(9,.int .i64 i),(10,.int .u64 p.2.2),(33,.int .i64 x.length),(34,.int .i64 i),(39,.int .i64 (y.length+1:Int)),(40,.int .i64 p.1)]) (fun p=>⟨[(0,.cells (nats .u64 p.2.1))],1⟩)
   (fun p=>p.1≤y.length+1∧zed x y i (valL l0) p.1 p.2.1 p.2.2) (fun p=>y.length+1-p.1) (0,l0,0) Zk ⟨Yk _,zvm ho⟩ (Xb [] rfl rfl ?_ ?_) ?_
  ·simp only[go_sem]
  ·simp only[go_sem]
  rintro⟨k,l,c⟩ ⟨hk,hv⟩;dsimp only at hk hv ⊢;have hl:=hv.1;have hkl:=hv.2.1;have hcl:=hv.2.2.1;simp(disch:=try exact Zq)only[go_sem];refine Xc (fun h2=>?_) (fun h2=>?_)
  ·have hky:k≤y.length:=Zo;have hst:=zpB ox oy hix hky hv;have hpl:=zj4 (i:=i) (k:=k) ox oy hkl hcl;have hgl:=getD_lt hkl (i+k);have hm:(x.getD i 0:Int)*(y.getD k 0:Int)=((x.getD i 0*y.getD k 0:Nat):Int):=Zs;have hp1:mulP x y i k l c=l.getD (i+k) 0+c+x.getD i 0*y.getD k 0:=rfl;have hyz:¬(k:Int)<y.length→x.getD i 0*y.getD k 0=0:=fun h=>by rw[zbi y _ _ Zo];simp
   generalize x.getD i 0*y.getD k 0=q at*;by_cases h3:(k:Int)<y.length
   ·simp(disch:=try exact Zq)only[go_sem,h3,hm];repeat refine And.intro Zo ?_
    refine zi (k+1,l.set (i+k) (mulP x y i k l c%1000000000),mulP x y i k l c/1000000000) ⟨Zo,hst⟩ (by dsimp only;omega) (Xb [] rfl rfl ?_ ?_)
    ·simp only[go_sem];rw[hp1];simp only[V.int.injEq,Yag];omega
    simp only[go_sem];rw[zli (d:=mulP x y i k l c%1000000000) (by rw[hp1];omega)]
   have hq0:=hyz h3;subst hq0;simp(disch:=try exact Zq)only[go_sem,h3];repeat refine And.intro Zo ?_
   refine zi (k+1,l.set (i+k) (mulP x y i k l c%1000000000),mulP x y i k l c/1000000000) ⟨Zo,hst⟩ (by dsimp only;omega) (Xb [] rfl rfl ?_ ?_)
   ·simp only[go_sem];rw[hp1];simp only[V.int.injEq,Yag];omega
   simp only[go_sem];rw[zli (d:=mulP x y i k l c%1000000000) (by rw[hp1];omega)]
  have hke:k=y.length+1:=Zo;subst hke;have hen:=zvn ho hv;simp(disch:=try exact Zq)only[go_sem];refine AXa.go mixed (hΓ) (zg) Zk ?_;simp(disch:=try exact Zq)only[go_sem];refine zi (i+1,l) ⟨Zo,hen⟩ (by dsimp only;omega) (Xb [] rfl rfl ?_ ?_)
  ·simp only[go_sem];simp
  simp only[go_sem]
 have hie:i=x.length:=Zo;subst hie;have hll:=ho.1;have hft:=hfin l0 ho;simp only[go_sem];refine AXa.fz [0] rfl rfl rfl (env':=[(8,.fs (nats .u64 l0) l0.length)]) (bs':=[]) (n':=1) ?_ ?_ ?_
 ·simp only[go_sem];right;exact FrzF.slp Zs rfl Zo (by simp[zb9];omega) (by rw[YW,Yas,zcd,←hll,Ym]) (zaG _ _)
 ·simp only[go_sem]
 refine AXa.go mixed (hΓ) (zg) Zk ?_;simp(disch:=try exact Zq)only[go_sem,hft,hse]
def DigR(args:ZA)(H:Hp)(r:AR):Prop:=
 ∃(b o:Nat)(kc:Option Nat)(l v:ZN),args=[.sl b o (v.length+1) 1 kc,.fs (nats .u64 v) v.length]∧H.get b=some (.cells (nats .u64 l))∧DigOK (seg l o v.length) v∧o+v.length+1≤l.length∧okL l∧l.length≤1000000∧
  (∀b x,H.get b=some x→b<H.next)∧
  r=⟨True,.int .u64 (valL (seg l o v.length)/valL v:Nat),H.put b (.cells (nats .u64 (mid l o (v.length+1) (digs (v.length+1) (valL (seg l o v.length)%valL v))))),[b],[b]⟩
def dgC_ok:∀args H r,DigR args H r→HCall prog 191 args H r:=by
 rintro args H r ⟨b,o,kc,l,v,rfl,hb,hd,h1,h2,h3,hk,rfl⟩;refine XD (zwE l v o hd h1 h2 h3) (.int _ _) (zaG _ _) (zaG _ _) b _ H ⟨rfl,fun i x y hx hy=>?_⟩ hb hk;match i with
 |0=>cases hx;cases hy;exact .sl (π:=fun i=>[b].getD i 0) (b:=0) (YaA.2 rfl) (.inl rfl)
 |1=>cases hx;cases hy;exact .same (.fs (zaG _ _))
 |i+2=>simp at hx
def dgC_uniq {args:ZA}{H:Hp}{r r':AR}(h:DigR args H r)(h':DigR args H r'):r'=r:=by obtain⟨b,o,kc,l,v,rfl,hb,_,_,_,_,_,rfl⟩:=h;obtain⟨b',o',kc',l',v',he,hb',_,_,_,_,_,rfl⟩:=h';simp only[Yt,V.sl.injEq,V.fs.injEq,Yad,Yag]at he;obtain⟨⟨rfl,rfl,_,rfl⟩,e,_⟩:=he;obtain rfl:=zaY e;rw[hb]at hb';simp only[Yx,Blk.cells.injEq]at hb';rw[zaY hb']
def dgC_eq(b o:Nat)(kc:Option Nat)(l v:ZN)(H:Hp)(hb:H.get b=some (.cells (nats .u64 l)))(hd:DigOK (seg l o v.length) v)(h1:o+v.length+1≤l.length)(h2:okL l)(h3:l.length≤1000000)(hk:∀b x,H.get b=some x→b<H.next):conD DigR [.sl b o (v.length+1) 1 kc,.fs (nats .u64 v) v.length] H=some ⟨True,.int .u64 (valL (seg l o v.length)/valL v:Nat),H.put b (.cells (nats .u64 (mid l o (v.length+1) (digs (v.length+1) (valL (seg l o v.length)%valL v))))),[b],[b]⟩:=by have hr:DigR [.sl b o (v.length+1) 1 kc,.fs (nats .u64 v) v.length] H ⟨True,.int .u64 (valL (seg l o v.length)/valL v:Nat),H.put b (.cells (nats .u64 (mid l o (v.length+1) (digs (v.length+1) (valL (seg l o v.length)%valL v))))),[b],[b]⟩:=⟨b,o,kc,l,v,rfl,hb,hd,h1,h2,h3,hk,rfl⟩;exact zan hr fun _ h'=>dgC_uniq hr h'
def ΔD:FuncId→ZA→Hp→Option AR:=zaQ 190 (conD zfJ) (zaQ 191 (conD DigR) (zaQ 156 (conD zoT) noΔ))
def zgj:zay prog ΔD:=zK (zT zrb) (zK (zT dgC_ok) (zK (zT zpd) zg))
def zhg {X k:Nat}(hk:k<1000000000):(limbs (X*k)).length≤(limbs X).length+1:=by apply zaC;have h1:=zY (zI X);rw[zD]at h1;rw[YG];exact Nat.mul_lt_mul'' h1 hk
def zeJ:∀l:ZN,(zao l).length≤l.length
 |[]=>Yc _
 |d::l=>by
  have:=zeJ l;unfold zao;split
  ·simp
  simpa using this
def zgv:∀l:ZN,l.take (zao l).length=zao l
 |[]=>rfl
 |d::l=>by
  have:=zgv l;unfold zao;split
  ·simp
  simpa using this
def zfE(x m:Nat)(h:(limbs x).length≤m):digs m x=limbs x++List.replicate (m-(limbs x).length) 0:=by
 have ok:okL (limbs x++List.replicate (m-(limbs x).length) 0):=okL_append.2 ⟨zI x,fun d hd=>by have:=YaO hd;omega⟩;have hz:∀j,valL (List.replicate j 0)=0:=by
  intro j;induction j with
  |zero=>rfl
  |succ j ih=>rw[Ya6,valL,ih]
 have:=zfD ok;rw[zax,hz,Y4,YS,zD,Yg,Ycm]at this;rw[this,Nat.add_sub_cancel' h]
def zwD(X Y:Nat)(hX:(limbs X).length≤500)(hYl:(limbs Y).length≤500)(hY:Y≠0):PCall prog 177 [.fs (nats .u64 (limbs X)) (limbs X).length,.fs (nats .u64 (limbs Y)) (limbs Y).length] (.ret (.tup [.fs (nats .u64 (limbs (X/Y))) (limbs (X/Y)).length,.fs (nats .u64 (limbs (X%Y))) (limbs (X%Y)).length])):=by
 have hΓ:=zf zdP (zh (P:=prog));refine Xa (rs:=[.tmp 4,.tmp 5]) [0,1,4,5,6,7,8,9,10,11,12,13,14,18,39,49,50,51,74,75,76] [] mixed (hΓ) (zgj) call177 func177 rfl ntmps177 rfl ?_;simp(disch:=try exact Zq)only[go_sem];refine Xc (fun h1=>?_) (fun h1=>?_)
 ·have h2:X<Y:=by
   rw[zbS]at h1;split at h1
   ·assumption
   split at h1<;>omega
  rw[Yb4 h2,Ybi h2];simp only[go_sem,zaA]
 have h2:Y≤X:=by rw[zbS]at h1;split at h1<;>omega
 obtain⟨n,hn⟩:∃n,n=(limbs Y).length:=⟨_,rfl⟩;have hyl:=zcc hY;rw[←hn]at hyl;have hyt:=getD_lt (zI Y) (n-1);obtain⟨k,hk⟩:∃k,k=1000000000/((limbs Y).getD (n-1) 0+1):=⟨_,rfl⟩;obtain⟨k0,k1,k2⟩:=norm_len hn hY hk;have hkI:(1000000000:Int)/(((limbs Y).getD (n-1) 0:Nat)+1)=(k:Int):=by rw[hk,Int.natCast_ediv];rfl
 have hn0:0<n:=by
  rcases YR n with h0|h0
  ·rw[h0]at hn;exact absurd (limbs_nil.1 (Yz hn.symm)) hY
  exact h0
 have hm0:0<(limbs X).length:=by
  rcases YR (limbs X).length with h0|h0
  ·have:=limbs_nil.1 (Yz h0);omega
  exact h0
 obtain⟨m,hm⟩:∃m,m=(limbs X).length+1:=⟨_,rfl⟩;have hnm:n<m:=by refine Ybb ?_ (show (limbs X).length<m by omega);rw[hn];refine Y3 fun hlt=>?_;have:=zaI hlt;omega
 have hstart:=DivInv.start hm0 hm hn hY h2 k1 k0 k2 hnm;have hS1:ΔD 190 [.fs (nats .u64 (limbs X)) (limbs X).length,.int .u64 k] ⟨[],0⟩=some ⟨True,.sl 0 0 (limbs (X*k)).length 1 none,⟨[(0,.cells (nats .u64 (digs m (X*k))))],1⟩,[],[]⟩:=by rw[hm];exact zis X k Zo k1 [] 0 rfl
 have hS2:∀B,ΔD 190 [.fs (nats .u64 (limbs Y)) n,.int .u64 k] ⟨[(0,.cells B)],1⟩=some ⟨True,.sl 1 0 n 1 none,⟨[(1,.cells (nats .u64 (digs (n+1) (Y*k)))),(0,.cells B)],2⟩,[],[]⟩:=fun B=>by have:=zis Y k Zo k1 [(0,.cells B)] 1 rfl;rw[k2,←hn]at this;exact this
 obtain⟨m0,hm0'⟩:∃m0,m0=(limbs (X*k)).length:=⟨_,rfl⟩;have hXk:=zfE (X*k) m (by rw[hm];exact zhg k1);have hle1:m0≤m:=by rw[hm0',hm];exact zhg k1
 have hle2:m≤m0+1:=by rw[hm0',hm];refine Nat.add_le_add_right (Y3 fun hlt=>?_) 1;have h3:=zaI hlt;have h4:X≤X*k:=Nat.le_mul_of_pos_right _ k0;omega
 simp(disch:=try exact Zq)only[go_sem,←hn,hkI,hS1,hS2,←hm0'];refine⟨⟨Zo,Zo⟩,Zo,Zo,?_⟩;refine AXs.loop mixed (hΓ) (zgj) (fun e:Nat=>[(0,.fs (nats .u64 (limbs X)) (limbs X).length),(6,.int .i64 n),(7,.int .u64 k),(8,.sl 0 0 (m0+e) 1 none),(9,.sl 1 0 n 1 none)]) (fun _=>⟨[(1,.cells (nats .u64 (digs (n+1) (Y*k)))),(0,.cells (nats .u64 (digs m (X*k))))],2⟩) (fun e=>m0+e≤m) (fun e=>m-(m0+e)) 0 Zk hle1 (Xb [] rfl rfl ?_ ?_) ?_
 ·simp only[go_sem]
 ·simp only[go_sem]
 rintro e he;simp(disch:=try exact Zq)only[go_sem];refine Xc (fun h3=>?_) (fun h3=>?_)
 ·have he0:e=0:=Zo;subst he0;have hm1:m=m0+1:=Zo;have hdl:=zdg m (X*k);have hcat:List.take m0 (digs m (X*k))++[0]=digs m (X*k):=by rw[hXk,←hm0',YbO hm0'.symm,hm1,Ybu];rfl
  simp(disch:=try exact Zq)only[go_sem];refine⟨⟨Zo,Zo,Zo⟩,?_⟩;refine zi 1 Zo Zo (Xb [(0,3)] rfl rfl ?_ ?_)
  ·simp only[go_sem]
  simp only[go_sem];rw[show ([V.int .u64 0]:ZA)=nats .u64 [0]from rfl];conv=>rhs;rw[←hcat]
  simp[nats]
 have hme:m0+e=m:=Zo;have hln:=zdg m (X*k);have hlv:=zdg (n+1) (Y*k);have hYk:=zfE (Y*k) (n+1) Zo;rw[k2,show n+1-n=1 by omega]at hYk;rw[hme];simp(disch:=try exact Zq)only[go_sem];refine AXa.fz [1] rfl rfl rfl (env':=[(6,.int .i64 n),(7,.int .u64 k),(8,.sl 0 0 m 1 none),(9,.fs (nats .u64 (limbs (Y*k))) n)]) (bs':=[(0,.cells (nats .u64 (digs m (X*k))))]) (n':=2) ?_ ?_ ?_
 ·simp only[go_sem];refine⟨.inl ⟨Zs,rfl⟩,.inr ?_⟩;exact FrzF.slp Zs rfl Zo (by rw[zb9,hlv];omega) (by rw[YW,Yas,zcd,hYk,YbO (by rw[k2])]) (zaG _ _)
 ·simp only[go_sem];simp
 refine AXa.go mixed (hΓ) (zgj) Zk ?_;simp(disch:=try exact Zq)only[go_sem,zpe,zpT];refine⟨⟨Zo,Zo,Zo,Zo⟩,?_⟩;have hvt:=zcc (n:=Y*k) (by have:=YbG (Ybz hY) k0;omega);have okV:=zI (Y*k);have hfin:∀q u,DivInv (X*k) (limbs (Y*k)) m 0 q u→zao q=limbs (X/Y)∧zao u=limbs (X%Y*k):=fun q u h=>by have:=h.done;rw[zD,Nat.mul_div_mul_right _ _ k0,Nat.mul_mod_mul_right]at this;exact this
 generalize limbs (Y*k)=VV at*;subst k2;refine AXs.loop mixed (hΓ) (zgj) (fun p:Nat×ZN×ZN=>[(4,.sl 2 0 (m-VV.length) 1 (some (m-VV.length))),(6,.int .i64 VV.length),(7,.int .u64 k),(8,.sl 0 0 m 1 none),(9,.fs (nats .u64 VV) VV.length),(49,.int .i64 (m-VV.length:Nat)),(50,.int .i64 p.1)]) (fun p=>⟨[(2,.cells (nats .u64 p.2.1)),(0,.cells (nats .u64 p.2.2))],3⟩)
  (fun p=>p.1≤m-VV.length∧DivInv (X*k) VV m (m-VV.length-p.1) p.2.1 p.2.2) (fun p=>m-VV.length-p.1) (0,List.replicate (m-VV.length) 0,digs m (X*k)) Zk ⟨Yk _,hstart⟩ (Xb [] rfl rfl ?_ ?_) ?_
 ·simp only[go_sem]
 ·simp only[go_sem]
 rintro⟨i,q,u⟩ ⟨hi,hinv⟩;dsimp only at hi hinv ⊢;have lu:=hinv.lu;have lq:=hinv.lq;simp(disch:=try exact Zq)only[go_sem];refine Xc (fun h4=>?_) (fun h4=>?_)
 ·obtain⟨a,ha⟩:∃a,a=m-VV.length-1-i:=⟨_,rfl⟩;rw[show m-VV.length-i=a+1 by omega]at hinv;obtain⟨hdig,_,_⟩:=hinv.segm okV hn0 (Ybz hvt) Zo;have hstep:=hinv.step okV hn0 (Ybz hvt) Zo;have hai:((m-VV.length:Nat):Int)-1-(i:Int)=(a:Int):=Zo;have hD:ΔD 191 [.sl 0 a (a+VV.length+1-a) 1 none,.fs (nats .u64 VV) VV.length] ⟨[(2,.cells (nats .u64 q)),(0,.cells (nats .u64 u))],3⟩=
   some ⟨True,.int .u64 (valL (seg u a VV.length)/valL VV:Nat),⟨[(2,.cells (nats .u64 q)),(0,.cells (nats .u64 (mid u a (VV.length+1) (digs (VV.length+1) (valL (seg u a VV.length)%valL VV)))))],3⟩,[0],[0]⟩:=by
   rw[show a+VV.length+1-a=VV.length+1 by omega]
   exact dgC_eq 0 a none u VV ⟨[(2,.cells (nats .u64 q)),(0,.cells (nats .u64 u))],3⟩ rfl hdig Zo hinv.ou Zo (zaZ rfl)
  generalize valL (seg u a VV.length)/valL VV=dd at*;generalize mid u a (VV.length+1) (digs (VV.length+1) (valL (seg u a VV.length)%valL VV))=u' at*;simp(disch:=try exact Zq)only[go_sem,hai,hD];refine⟨⟨Zo,Zo,Zo⟩,⟨Zo,Zo⟩,Zo,?_⟩;refine zi (i+1,q.set a dd,u') ⟨by dsimp only;omega,?_⟩ (by dsimp only;omega) (Xb [] rfl rfl ?_ ?_)
  ·dsimp only;rw[show m-VV.length-(i+1)=a by omega];exact hstep
  ·simp only[go_sem];simp
  simp only[go_sem]
 have hie:i=m-VV.length:=Zo;subst hie;rw[YaK]at hinv;obtain⟨e1,e2⟩:=hfin q u hinv;have oq:=hinv.oq;have ou:=hinv.ou;have hT:∀Bq,ΔD 156 [.sl 0 0 m 1 none] ⟨[(2,.cells Bq),(0,.cells (nats .u64 u))],3⟩=some ⟨True,.sl 0 0 (limbs (X%Y*k)).length 1 none,⟨[(2,.cells Bq),(0,.cells (nats .u64 u))],3⟩,[0],[]⟩:=fun Bq=>by have:=zf4 0 m none u [(2,.cells Bq),(0,.cells (nats .u64 u))] 3 rfl Zo Zo rfl;rw[Yp Zo,e2]at this;exact this
 simp(disch:=try exact Zq)only[go_sem];refine AXa.go mixed (hΓ) (zgj) Zk ?_;simp(disch:=try exact Zq)only[go_sem,hT];have hu:u=limbs (X%Y*k)++List.replicate (m-(limbs (X%Y*k)).length) 0:=by
  have h5:=zfD ou;have h6:valL u=X%Y*k:=zbW (by rw[←zaM ou,e2]);rw[lu,h6]at h5;rw[←zfE _ _ ?_]
  ·exact h5
  rw[←e2,←lu];exact zeJ u
 have hlr:(limbs (X%Y*k)).length≤1000:=by have:=Ya1 List.length hu;rw[Yg]at this;omega
 have hrd:=fun r c=>rem_done (z:=X%Y) (r:=r) (c:=c) k0;have hrs:=zut (r0:=limbs (X%Y*k)) k0 (zI _);clear hT e2 ou hinv;generalize limbs (X%Y*k)=r0 at*;generalize List.replicate (m-r0.length) 0=z at*;subst hu;refine AXs.loop mixed (hΓ) (zgj) (fun p:Nat×ZN×Nat=>[(4,.sl 2 0 (m-VV.length) 1 (some (m-VV.length))),(5,.sl 0 0 r0.length 1 none),(7,.int .u64 k),(12,.int .u64 p.2.2),(74,.int .i64 r0.length),(75,.int .i64 p.1)]) (fun p=>⟨[(2,.cells (nats .u64 q)),(0,.cells (nats .u64 (p.2.1++z)))],3⟩)
  (fun p=>p.1≤r0.length∧zlt k r0 (r0.length-p.1) p.2.1 p.2.2) (fun p=>r0.length-p.1) (0,r0,0) Zk ⟨Yk _,hrs⟩ (Xb [] rfl rfl ?_ ?_) ?_
 ·simp only[go_sem]
 ·simp only[go_sem]
 rintro⟨i,r,c⟩ ⟨hi,hr⟩;dsimp only at hi hr ⊢;have lr:=hr.1;simp(disch:=try exact Zq)only[go_sem];refine Xc (fun h4=>?_) (fun h4=>?_)
 ·obtain⟨e,he⟩:∃e,e=r0.length-1-i:=⟨_,rfl⟩;rw[show r0.length-i=e+1 by omega]at hr;obtain⟨hst,hb⟩:=rem_step k1 Zo hr;have hei:((r0.length:Nat):Int)-1-(i:Int)=(e:Int):=Zo;have hg:(r++z).getD e 0=r.getD e 0:=by rw[Ya,YP Zo,Ya]
  have hset:∀d,(r++z).set e d=r.set e d++z:=fun d=>List.set_append_left _ _ Zo;obtain⟨R9,hR9⟩:∃R9,R9=c*1000000000:=⟨_,rfl⟩;have hR:(c:Int)*1000000000=(R9:Int):=Zo;obtain⟨T,hT⟩:∃T,T=R9+r.getD e 0:=⟨_,rfl⟩;have hT':(R9:Int)+((r.getD e 0:Nat):Int)=(T:Int):=Zo;rw[←hR9,←hT]at hst hb;have hdv:(T:Int)/(k:Int)=((T/k:Nat):Int):=(Int.natCast_ediv ..).symm;have hmd:(T:Int)%(k:Int)=((T%k:Nat):Int):=(Int.natCast_emod ..).symm;have hdk:T/k≤T:=Yca ..;have hmk:T%k≤T:=Nat.mod_le ..;have lrz:(r++z).length=r.length+z.length:=Yg;generalize T/k=td at*;generalize T%k=tm at*;simp(disch:=try exact Zq)only[go_sem,hei,hg,hR,hT',hdv,hmd];refine⟨⟨Zo,Zo⟩,Zo,Zo,Zo,⟨Zo,Zo⟩,Zo,AXk.intro Zk ?_⟩;simp(disch:=try exact Zq)only[go_sem];refine zi (i+1,r.set e td,tm) ⟨by dsimp only;omega,?_⟩ (by dsimp only;omega) (Xb [] rfl rfl ?_ ?_)
  ·dsimp only;rw[show r0.length-(i+1)=e by omega];exact hst
  ·simp only[go_sem];simp
  simp only[go_sem];rw[hset]
 have hie:i=r0.length:=Zo;subst hie;rw[YaK]at hr;have e2:=hrd r c hr;simp(disch:=try exact Zq)only[go_sem];refine AXa.go mixed (hΓ) (zgj) Zk ?_;have hT1:ΔD 156 [.sl 2 0 (m-VV.length) 1 (some (m-VV.length))] ⟨[(2,.cells (nats .u64 q)),(0,.cells (nats .u64 (r++z)))],3⟩=some ⟨True,.sl 2 0 (limbs (X/Y)).length 1 none,⟨[(2,.cells (nats .u64 q)),(0,.cells (nats .u64 (r++z)))],3⟩,[2],[]⟩:=by have:=zf4 2 (m-VV.length) (some (m-VV.length)) q [(2,.cells (nats .u64 q)),(0,.cells (nats .u64 (r++z)))] 3 rfl Zo Zo rfl;rw[Yp Zo,e1]at this;exact this
 have hT2:ΔD 156 [.sl 0 0 r0.length 1 none] ⟨[(2,.cells (nats .u64 q)),(0,.cells (nats .u64 (r++z)))],3⟩=some ⟨True,.sl 0 0 (limbs (X%Y)).length 1 none,⟨[(2,.cells (nats .u64 q)),(0,.cells (nats .u64 (r++z)))],3⟩,[0],[]⟩:=by have:=zf4 0 r0.length none (r++z) [(2,.cells (nats .u64 q)),(0,.cells (nats .u64 (r++z)))] 3 rfl (by rw[Yg];omega) (by rw[Yg]at *; omega) rfl;rw[YbO Zo,e2]at this;exact this
 simp(disch:=try exact Zq)only[go_sem,hT1,hT2];have p1:=zgv q;have p2:=zgv r;have p3:=zeJ q;have p4:=zeJ r;rw[e1]at p1 p3;rw[e2]at p2 p4;refine⟨Frz.slp rfl rfl (by rw[zb9];omega) ?_ (zaG _ _),Frz.slp rfl rfl (by rw[zb9,Yg];omega) ?_ (zaG _ _)⟩
 ·rw[YW,Yas,zcd,p1]
 rw[YW,Yas,zcd,List.take_append_of_le_length p4,p2]
def subV(a b:ZL):V:=if zX a=true∧zX b=true then(if valD a<valD b then errV 4 else .tup [.str (dec (valD a-valD b)),.int .i64 0])else errV 1
def cmpV(a b:ZL):Int:=if zX a=true∧zX b=true then cmpI (valD a) (valD b)else 0
def zvg(hT:zhK)(a b:ZL):PCall prog 152 [.str a,.str b] (.ret (subV a b)):=by
 refine Xa (rs:=[.tmp 4,.tmp 5]) [0,1,4,5,6,7,15,23] [] mixed (zf zcS (zf zcU (zf zdP (zf zsZ (zf (zkt hT) zh))))) (zg) call152 func152 rfl ntmps152 rfl ?_;by_cases ha:zX a=true
 case neg=>simp only[go_sem,subV,ha,errV]
 by_cases hb:zX b=true
 case neg=>simp only[go_sem,subV,ha,hb,errV]
 have da:=zaT ha;have la:=zaS ha;have db:=zaT hb;have lb:=zaS hb;have ba:=zbr da la;have bb:=zbr db lb;simp(disch:=try exact Zq)only[go_sem,ha,hb];refine Xc (fun h1=>?_) (fun h1=>?_)
 ·have h2:valD a<valD b:=by
   rw[zbS]at h1;split at h1
   ·assumption
   split at h1<;>omega
  simp(disch:=try exact Zq)only[go_sem,subV,ha,hb,h2,errV]
 have h2:valD b≤valD a:=by
  rw[zbS]at h1;split at h1
  ·omega
  omega
 have h3:¬valD a<valD b:=Zo;have bs:=zlQ (y:=valD b) ba;simp(disch:=try exact Zq)only[go_sem,subV,ha,hb,h3]
def zvj(a b:ZL):PCall prog 151 [.str a,.str b] (.ret (.int .i64 (cmpV a b))):=by
 refine Xa (rs:=[.tmp 4]) [0,1,4,12] [] mixed (zf zcS (zf zcU (zf zdP zh))) (zg) call151 func151 rfl ntmps151 rfl ?_;by_cases ha:zX a=true
 case neg=>simp only[go_sem,cmpV,ha]
 by_cases hb:zX b=true
 case neg=>simp only[go_sem,cmpV,ha,hb]
 have da:=zaT ha;have la:=zaS ha;have db:=zaT hb;have lb:=zaS hb;have ba:=zbr da la;have bb:=zbr db lb;simp(disch:=try exact Zq)only[go_sem,cmpV,ha,hb]
end Go.Proofs

namespace Go.Proofs
open Go.Ab Go.Pl
def zbL {m n:Nat}(h:dec m=dec n):m=n:=by rw[←zaL m,h,zaL]
def zgs {a:ZL}(h:zX a=true):dec (valD a)=a:=(validN_iff.1 h).1.1
def za3 {n:Nat}(h:(dec n).length≤1000):zX (dec n)=true:=by rw[zfl];simpa using h
def gcdV(a b:ZL):V:=if zX a=true∧zX b=true then .tup [.str (dec (Nat.gcd (valD a) (valD b))),.int .i64 0]else errV 1
def zbs {n:Nat}:decide (dec n=[49])=decide (n=1):=by have:dec n=[49]↔n=1:=⟨fun h=>zbL (h.trans (show [49]=dec 1 from rfl)),fun h=>by rw[h];rfl⟩;simp only[this]
end Go.Proofs

namespace Go.Pl
def zaW(a:ZL):Bool:=zX a&&decide (a.length≤400)
def zH(a:ZL):Bool×ZL×ZL×Bool:=
 let neg:=decide (a.getD 0 0=45)
 let r:=if neg then a.drop 1 else a
 match r.findIdx? (· ==47)with
 |some i=>(neg,r.take i,r.drop (i+1),true)
 |none=>(neg,r,[49],false)
def zbI(neg:Bool)(n d:ZL)(fr:Bool):Bool:=
 zaW n&&zaW d&& !(neg&&decide (n=[48]))&& !(fr&&(decide (d=[48])||decide (d=[49])))&&decide (Nat.gcd (valD n) (valD d)=1)
def ratP(a:ZL):Option (Bool×Nat×Nat):=
 if zbI (zH a).1 (zH a).2.1 (zH a).2.2.1 (zH a).2.2.2=true then some ((zH a).1,valD (zH a).2.1,valD (zH a).2.2.1)else none
def ratT(neg:Bool)(n d:Nat):ZL:=
 (if neg=true∧n≠0 then [45]else [])++dec n++(if d=1 then []else 47::dec d)
def longN(n:Nat):Bool:=decide (400<(dec n).length)
def shortN_iff {a:ZL}:zaW a=true↔zX a=true∧a.length≤400:=by simp[zaW]
def zaf {a:ZL}(h:zX a=true):dec (valD a)=a:=(validN_iff.1 h).1.1
def zgT(a:ZL):(zH a).2.2.2=true∨(zH a).2.2.1=[49]:=by
 unfold zH;simp only;split
 ·exact .inl rfl
 exact .inr rfl
def za7 {a:ZL}{s:Bool}{n d:Nat}(h:ratP a=some (s,n,d)):0<d∧Nat.gcd n d=1∧(dec n).length≤400∧(dec d).length≤400:=by
 unfold ratP at h;split at h
 case isFalse=>cases h
 case isTrue hk=>
  simp only[Yx,Ybc]at h
  obtain⟨rfl,rfl,rfl⟩:=h
  simp only[zbI,Yj,Yn]at hk
  obtain⟨⟨⟨⟨h1,h2⟩,h3⟩,h4⟩,h5⟩:=hk
  have l1:=(shortN_iff.1 h1).2
  have l2:=(shortN_iff.1 h2).2
  refine⟨?_,h5,by rw[zaf (shortN_iff.1 h1).1];exact l1,by rw[zaf (shortN_iff.1 h2).1];exact l2⟩
  rcases YR (valD (zH a).2.2.1)with h0|h0
  ·exfalso;rw[h0,Nat.gcd_zero_right]at h5;have e:=zaf (shortN_iff.1 h2).1;rw[h0]at e;have h6:(zH a).2.2.1=[48]:=by rw[←e];rfl
   rcases zgT a with h7|h7
   ·rw[h6,h7]at h4;simp at h4
   rw[h6]at h7;cases h7
  ·exact h0
def sumS(p:Bool)(a:Nat)(q:Bool)(b:Nat):Bool×Nat:=if p=q then(p,a+b)else if b≤a then(p,a-b)else(q,b-a)
end Go.Pl

namespace Go.Pl
def zhz {m n j k:Nat}(hm:(dec m).length≤j)(hn:(dec n).length≤k):(dec (m*n)).length≤j+k:=by have h1:=zbK hm;have h2:=zbK hn;have h3:=zdL m;refine zcR ?_ Zo;rw[YbP];exact Nat.mul_lt_mul'' h1 h2
def zoh {m n k:Nat}(hm:(dec m).length≤k)(hn:(dec n).length≤k):(dec (m+n)).length≤k+1:=by have h1:=zbK hm;have h2:=zbK hn;refine zcR ?_ Zo;rw[YG];generalize (10:Nat)^k=p at*;omega
end Go.Pl

namespace Go.Proofs
open Go.Ab Go.Pl
def zvB {n:Nat}(h:(dec n).length≤1000):limV n=.tup [.str (dec n),.int .i64 0]:=Ye Zo
def mulV_dec {x y:Nat}(hx:(dec x).length≤1000)(hy:(dec y).length≤1000)(h:(dec (x*y)).length≤1000):mulV (dec x) (dec y)=.tup [.str (dec (x*y)),.int .i64 0]:=by simp only[mulV,za3 hx,za3 hy,Yco,if_true,zaL,zvB h]
def addV_dec {x y:Nat}(hx:(dec x).length≤1000)(hy:(dec y).length≤1000)(h:(dec (x+y)).length≤1000):addV (dec x) (dec y)=.tup [.str (dec (x+y)),.int .i64 0]:=by simp only[addV,za3 hx,za3 hy,Yco,if_true,zaL,zvB h]
def subV_dec {x y:Nat}(hx:(dec x).length≤1000)(hy:(dec y).length≤1000)(h:y≤x):subV (dec x) (dec y)=.tup [.str (dec (x-y)),.int .i64 0]:=by have:¬x<y:=Zo;simp only[subV,za3 hx,za3 hy,Yco,if_true,zaL,this,if_false]
def cmpV_dec {x y:Nat}(hx:(dec x).length≤1000)(hy:(dec y).length≤1000):cmpV (dec x) (dec y)=cmpI x y:=by simp only[cmpV,za3 hx,za3 hy,Yco,if_true,zaL]
def mkV(neg:Bool)(n d:Nat):V:=if longN (n/Nat.gcd n d)=true∨longN (d/Nat.gcd n d)=true then errV 2 else .tup [.str (ratT neg (n/Nat.gcd n d) (d/Nat.gcd n d)),.int .i64 0]
def zbl(a b:ZL):Int:=match ratP a,ratP b with
 |some (p,m,d),some (q,n,f)=>if (sumS p (m*f) (!q) (n*d)).2=0 then 0 else if (sumS p (m*f) (!q) (n*d)).1=true then -1 else 1
 |_,_=>0
def zgW(a b:ZL):V:=match ratP a,ratP b with
 |some (p,m,d),some (q,n,f)=>mkV (sumS p (m*f) q (n*d)).1 (sumS p (m*f) q (n*d)).2 (d*f)
 |_,_=>errV 1
def zgV(a b:ZL):V:=match ratP a,ratP b with
 |some (p,m,d),some (q,n,f)=>mkV (!(p==q)) (m*n) (d*f)
 |_,_=>errV 1
def zf8 {a b:ZL}{p q:Bool}{m d n f:Nat}(ha:ratP a=some (p,m,d))(hb:ratP b=some (q,n,f)):zbl a b=if (sumS p (m*f) (!q) (n*d)).2=0 then 0 else if (sumS p (m*f) (!q) (n*d)).1=true then -1 else 1:=by unfold zbl;generalize ratP a=x at*;generalize ratP b=y at*;subst ha hb;rfl
def zuM {a b:ZL}{p q:Bool}{m d n f:Nat}(ha:ratP a=some (p,m,d))(hb:ratP b=some (q,n,f)):zgW a b=mkV (sumS p (m*f) q (n*d)).1 (sumS p (m*f) q (n*d)).2 (d*f):=by unfold zgW;generalize ratP a=x at*;generalize ratP b=y at*;subst ha hb;rfl
def zuI {a b:ZL}{p q:Bool}{m d n f:Nat}(ha:ratP a=some (p,m,d))(hb:ratP b=some (q,n,f)):zgV a b=mkV (!(p==q)) (m*n) (d*f):=by unfold zgV;generalize ratP a=x at*;generalize ratP b=y at*;subst ha hb;rfl
def zuL {a:ZL}(b:ZL)(ha:ratP a=none):zbl a b=0:=by unfold zbl;generalize ratP a=x at*;subst ha;rfl
def zuK(a:ZL){b:ZL}(hb:ratP b=none):zbl a b=0:=by unfold zbl;generalize ratP b=y at*;subst hb;cases ratP a<;>rfl
end Go.Proofs

namespace Go.Proofs
open Tryz Go.Ab Go.Pl
def zxT:ZV:=zL (fun p:Nat×Nat=>[.fs (nats .u64 (limbs p.1)) (limbs p.1).length,.fs (nats .u64 (limbs p.2)) (limbs p.2).length]) (fun p=>(limbs p.1).length≤500∧(limbs p.2).length≤500∧p.2≠0) fun p=>.ret (.tup [.fs (nats .u64 (limbs (p.1/p.2))) (limbs (p.1/p.2)).length,.fs (nats .u64 (limbs (p.1%p.2))) (limbs (p.1%p.2)).length])
def zta(x y n m:Nat)(hn:n=(limbs x).length)(hm:m=(limbs y).length)(hx:(limbs x).length≤500)(hy:(limbs y).length≤500)(h0:y≠0):zxT [.fs (nats .u64 (limbs x)) n,.fs (nats .u64 (limbs y)) m]=some (.ret (.tup [.fs (nats .u64 (limbs (x/y))) (limbs (x/y)).length,.fs (nats .u64 (limbs (x%y))) (limbs (x%y)).length])):=by subst hn hm;exact zo (pat:=fun p:Nat×Nat=>[V.fs (nats .u64 (limbs p.1)) (limbs p.1).length,.fs (nats .u64 (limbs p.2)) (limbs p.2).length]) (fun _ _ h=>zjf h) (x,y) ⟨hx,hy,h0⟩
def zs9:ZC zxT 177:=zn fun p h=>zwD p.1 p.2 h.1 h.2.1 h.2.2
attribute [go_sem] zta
def limbs_k {n k j:Nat}(h:(dec n).length≤k)(hk:k≤9*j):(limbs n).length≤j:=by
 refine zaC ?_;have h1:=zbK h;have h2:(1000000000:Nat)^j=10^(9*j):=by rw[show (1000000000:Nat)=10^9 from rfl,←Nat.pow_mul]
 rw[h2];exact Yu h1 (YL Zo hk)
def zpJ {n:Nat}(h:(dec n).length≤1000):(limbs n).length≤500:=limbs_k h Zo
def zvi(a b:ZL):PCall prog 157 [.str a,.str b] (.ret (gcdV a b)):=by
 have hΓ:=zf zcS (zf zcU (zf zs9 (zf (zkt zpg) zh)));refine Xa (rs:=[.tmp 4,.tmp 5]) [0,1,4,5,6,7,9,17,24] [] mixed (hΓ) (zg) call157 func157 rfl ntmps157 rfl ?_;by_cases ha:zX a=true
 case neg=>simp only[go_sem,gcdV,ha,errV]
 by_cases hb:zX b=true
 case neg=>simp only[go_sem,gcdV,ha,hb,errV]
 have da:=zaT ha;have la:=zaS ha;have db:=zaT hb;have lb:=zaS hb;have ba:=zpJ (n:=valD a) (by rw[zgs ha];exact la);have bb:=zpJ (n:=valD b) (by rw[zgs hb];exact lb);have hres:gcdV a b=.tup [.str (dec (Nat.gcd (valD a) (valD b))),.int .i64 0]:=by simp only[gcdV,ha,hb,Yco,if_true]
 rw[hres];simp(disch:=try exact Zq)only[go_sem,ha,hb];generalize valD a=A at*;generalize valD b=B at*;refine AXs.loop mixed (hΓ) (zg) (fun p:Nat×Nat=>[(6,.fs (nats .u64 (limbs p.1)) (limbs p.1).length),(7,.fs (nats .u64 (limbs p.2)) (limbs p.2).length)]) (fun _=>⟨[],0⟩) (fun p=>(limbs p.1).length≤500∧(limbs p.2).length≤500∧Nat.gcd p.1 p.2=Nat.gcd A B) (fun p=>p.2) (A,B) Zk ⟨ba,bb,rfl⟩ (Xb [] rfl rfl ?_ ?_) ?_
 ·simp only[go_sem]
 ·simp only[go_sem]
 rintro⟨x,y⟩ ⟨h1,h2,h3⟩;dsimp only at h1 h2 h3 ⊢;simp(disch:=try exact Zq)only[go_sem];refine Xc (fun h4=>?_) (fun h4=>?_)
 ·have hy:y≠0:=fun e=>by subst e;rw[zaA]at h4;simp at h4
  have hm:=YaL x (Ybz hy);simp(disch:=try exact Zq)only[go_sem];refine zi (y,x%y) ⟨h2,?_,?_⟩ hm (Xb [] rfl rfl ?_ ?_)
  ·refine Yw (Y3 fun hlt=>?_) h2;have:=zaI hlt;omega
  ·rw[←h3,Nat.gcd_comm x y,Nat.gcd_rec y x,Nat.gcd_comm]
  ·simp only[go_sem]
  simp only[go_sem]
 have hy:y=0:=limbs_nil.1 (Yz Zo);simp(disch:=try exact Zq)only[go_sem];refine AXa.go mixed (hΓ) (zg) Zk ?_;simp(disch:=try exact Zq)only[go_sem];rw[←h3,hy,Nat.gcd_zero_right]
def cNMul:ZV:=zL (fun p:Nat×Nat=>[.str (dec p.1),.str (dec p.2)]) (fun p=>(dec p.1).length≤1000∧(dec p.2).length≤1000∧(dec (p.1*p.2)).length≤1000) (fun p=>.ret (.tup [.str (dec (p.1*p.2)),.int .i64 0]))
def cNMul_ok:ZC cNMul 130:=zn fun p h=>by have:=zvh zpg (dec p.1) (dec p.2);rwa [mulV_dec h.1 h.2.1 h.2.2]at this
@[go_sem]def cNMul_eq(m n:Nat)(hm:(dec m).length≤1000)(hn:(dec n).length≤1000)(h:(dec (m*n)).length≤1000):cNMul [.str (dec m),.str (dec n)]=some (.ret (.tup [.str (dec (m*n)),.int .i64 0])):=
 zo (pat:=fun p:Nat×Nat=>[V.str (dec p.1),.str (dec p.2)]) (fun x y h=>by simp at h;exact YaC (zbL h.1) (zbL h.2)) (m,n) ⟨hm,hn,h⟩
def cNAdd:ZV:=zL (fun p:Nat×Nat=>[.str (dec p.1),.str (dec p.2)]) (fun p=>(dec p.1).length≤1000∧(dec p.2).length≤1000∧(dec (p.1+p.2)).length≤1000) (fun p=>.ret (.tup [.str (dec (p.1+p.2)),.int .i64 0]))
def cNAdd_ok:ZC cNAdd 150:=zn fun p h=>by have:=zvk zpg (dec p.1) (dec p.2);rwa [addV_dec h.1 h.2.1 h.2.2]at this
@[go_sem]def cNAdd_eq(m n:Nat)(hm:(dec m).length≤1000)(hn:(dec n).length≤1000)(h:(dec (m+n)).length≤1000):cNAdd [.str (dec m),.str (dec n)]=some (.ret (.tup [.str (dec (m+n)),.int .i64 0])):=
 zo (pat:=fun p:Nat×Nat=>[V.str (dec p.1),.str (dec p.2)]) (fun x y h=>by simp at h;exact YaC (zbL h.1) (zbL h.2)) (m,n) ⟨hm,hn,h⟩
def cNSub:ZV:=zL (fun p:Nat×Nat=>[.str (dec p.1),.str (dec p.2)]) (fun p=>(dec p.1).length≤1000∧(dec p.2).length≤1000∧p.2≤p.1) (fun p=>.ret (.tup [.str (dec (p.1-p.2)),.int .i64 0]))
def cNSub_ok:ZC cNSub 152:=zn fun p h=>by have:=zvg zpg (dec p.1) (dec p.2);rwa [subV_dec h.1 h.2.1 h.2.2]at this
@[go_sem]def cNSub_eq(m n:Nat)(hm:(dec m).length≤1000)(hn:(dec n).length≤1000)(h:n≤m):cNSub [.str (dec m),.str (dec n)]=some (.ret (.tup [.str (dec (m-n)),.int .i64 0])):=
 zo (pat:=fun p:Nat×Nat=>[V.str (dec p.1),.str (dec p.2)]) (fun x y h=>by simp at h;exact YaC (zbL h.1) (zbL h.2)) (m,n) ⟨hm,hn,h⟩
def cNCmp:ZV:=zL (fun p:Nat×Nat=>[.str (dec p.1),.str (dec p.2)]) (fun p=>(dec p.1).length≤1000∧(dec p.2).length≤1000) (fun p=>.ret (.int .i64 (cmpI p.1 p.2)))
def cNCmp_ok:ZC cNCmp 151:=zn fun p h=>by have:=zvj (dec p.1) (dec p.2);rwa [cmpV_dec h.1 h.2]at this
@[go_sem]def cNCmp_eq(m n:Nat)(hm:(dec m).length≤1000)(hn:(dec n).length≤1000):cNCmp [.str (dec m),.str (dec n)]=some (.ret (.int .i64 (cmpI m n))):=
 zo (pat:=fun p:Nat×Nat=>[V.str (dec p.1),.str (dec p.2)]) (fun x y h=>by simp at h;exact YaC (zbL h.1) (zbL h.2)) (m,n) ⟨hm,hn⟩
def cNGcd:ZV:=zL (fun p:ZL×ZL=>[.str p.1,.str p.2]) (fun _=>True) (fun p=>.ret (gcdV p.1 p.2))
def cNGcd_ok:ZC cNGcd 157:=zn fun p _=>zvi p.1 p.2
def zdO {a b:ZL}(ha:zX a=true)(hb:zX b=true):cNGcd [.str a,.str b]=some (.ret (.tup [.str (dec (Nat.gcd (valD a) (valD b))),.int .i64 0])):=by have:cNGcd [.str a,.str b]=some (.ret (gcdV a b)):=zo (fun p q h=>by simp at h;exact YaC h.1 h.2) (a,b) trivial;rw[this,gcdV,Yi ⟨ha,hb⟩]
def must_ok(s:ZL):PCall prog 129 [.str s,.int .i64 0] (.ret (.str s)):=by refine Xa (rs:=[.tmp 4]) [0,1,4,6] [] mixed (zh) (zg) call129 func129 rfl ntmps129 rfl ?_;simp only[go_sem]
def cMust:ZV:=zL (fun s:ZL=>[.str s,.int .i64 0]) (fun _=>True) (fun s=>.ret (.str s))
def zql:ZC cMust 129:=zn fun s _=>must_ok s
@[go_sem]def cMust_eq(s:ZL):cMust [.str s,.int .i64 0]=some (.ret (.str s)):=zo (pat:=fun s:ZL=>[V.str s,.int .i64 0]) (fun x y h=>by simpa using h) s trivial
def rplus_ok(p:Bool)(m:Nat)(q:Bool)(n:Nat)(hm:(dec m).length≤800)(hn:(dec n).length≤800):PCall prog 128 [.bool p,.str (dec m),.bool q,.str (dec n)] (.ret (.tup [.bool (sumS p m q n).1,.str (dec (sumS p m q n).2)])):=by
 have hΓ:=zf cNAdd_ok (zf cNCmp_ok (zf cNSub_ok (zf zql zh)));refine Xa (rs:=[.tmp 8,.tmp 9]) [0,1,2,3,8,9,12,23] [] mixed (hΓ) (zg) call128 func128 rfl ntmps128 rfl ?_;have ha:=zoh hm hn;by_cases hpq:p=q
 ·subst hpq;simp(disch:=try exact Zq)only[go_sem,sumS,Yb6,YaU]
 have hpq':(p==q)=false:=by simpa using hpq
 simp(disch:=try exact Zq)only[go_sem,hpq'];refine Xc (fun h1=>?_) (fun h1=>?_)
 ·have h2:¬n≤m:=by
   rw[zbS]at h1;split at h1
   ·omega
   split at h1<;>omega
  simp(disch:=try exact Zq)only[go_sem,sumS,hpq,h2]
 have h2:n≤m:=by
  rw[zbS]at h1;split at h1
  ·omega
  omega
 simp(disch:=try exact Zq)only[go_sem,sumS,hpq,h2]
def cNPlus:ZV:=zL (fun p:Bool×Nat×Bool×Nat=>[.bool p.1,.str (dec p.2.1),.bool p.2.2.1,.str (dec p.2.2.2)]) (fun p=>(dec p.2.1).length≤800∧(dec p.2.2.2).length≤800) (fun p=>.ret (.tup [.bool (sumS p.1 p.2.1 p.2.2.1 p.2.2.2).1,.str (dec (sumS p.1 p.2.1 p.2.2.1 p.2.2.2).2)]))
def zxx:ZC cNPlus 128:=zn fun p h=>rplus_ok p.1 p.2.1 p.2.2.1 p.2.2.2 h.1 h.2
@[go_sem]def cNPlus_eq(p:Bool)(m:Nat)(q:Bool)(n:Nat)(hm:(dec m).length≤800)(hn:(dec n).length≤800):cNPlus [.bool p,.str (dec m),.bool q,.str (dec n)]=some (.ret (.tup [.bool (sumS p m q n).1,.str (dec (sumS p m q n).2)])):=
 zo (pat:=fun p:Bool×Nat×Bool×Nat=>[V.bool p.1,.str (dec p.2.1),.bool p.2.2.1,.str (dec p.2.2.2)]) (fun x y h=>by obtain⟨x1,x2,x3,x4⟩:=x;obtain⟨y1,y2,y3,y4⟩:=y;simp at h;obtain⟨h1,h2,h3,h4⟩:=h;rw[h1,zbL h2,h3,zbL h4]) (p,m,q,n) ⟨hm,hn⟩
end Go.Proofs

namespace Go.Proofs
open Go.Ab Go.Pl
def zeb(a:ZL):V:=match ratP a with
 |some (s,n,d)=>.tup [.bool s,.str (dec n),.str (dec d),.bool true]
 |none=>.tup [.bool false,.str [],.str [],.bool false]
def partsQ(neg:Bool)(n d:ZL)(fr:Bool):V:=if zbI neg n d fr=true then .tup [.bool neg,.str n,.str d,.bool true]else .tup [.bool false,.str [],.str [],.bool false]
def zeR(a:ZL):zeb a=partsQ (zH a).1 (zH a).2.1 (zH a).2.2.1 (zH a).2.2.2:=by
 unfold zeb partsQ ratP;split
 ·rename_i h;split at h
  ·rename_i hk;simp only[Yx,Ybc]at h;obtain⟨rfl,rfl,rfl⟩:=h;rw[Yi hk];simp only[zbI,Yj]at hk;rw[zaf (shortN_iff.1 hk.1.1.1.1).1,zaf (shortN_iff.1 hk.1.1.1.2).1]
  cases h
 rename_i h;split at h
 ·cases h
 rename_i hk;rw[Ye hk]
def zjF {neg:Bool}{n d:ZL}{fr:Bool}(h:¬zaW n=true):zbI neg n d fr=false:=by rw[Yci]at h;simp[zbI,h]
def zuH {neg:Bool}{n d:ZL}{fr:Bool}(h:¬zaW d=true):zbI neg n d fr=false:=by rw[Yci]at h;simp[zbI,h]
def zpv {neg:Bool}{n:ZL}:zbI neg n [48] true=false:=by simp[zbI]
def zpu {neg:Bool}{n:ZL}:zbI neg n [49] true=false:=by simp[zbI]
def zpt {neg:Bool}{d:ZL}(h:zaW d=true)(h1:d≠[49]):zbI neg [48] d true=false:=by
 have hv:=zaf (shortN_iff.1 h).1;have:Nat.gcd (valD [48]) (valD d)≠1:=by show Nat.gcd 0 (valD d)≠1;rw[YbT];intro e;rw[e]at hv;exact h1 hv.symm
 simp[zbI,this]
def zjG {neg:Bool}{n d:ZL}(h1:zaW n=true)(h2:zaW d=true)(h3:n≠[48])(h4:d≠[48])(h5:d≠[49]):zbI neg n d true=decide (Nat.gcd (valD n) (valD d)=1):=by simp[zbI,h1,h2,h3,h4,h5]
def s48:zaW [48]=true:=Zd
def s49:zaW [49]=true:=Zd
def zjH {neg:Bool}{n:ZL}(h1:zaW n=true):zbI neg n [49] false= !(neg&&decide (n=[48])):=by
 have:Nat.gcd (valD n) (valD [49])=1:=by show Nat.gcd (valD n) 1=1;rw[YbU]
 simp only[zbI,h1,s49,this,Ybf,Yau,Yaq,Bool.not_false,Yav,Yb6]
end Go.Proofs
