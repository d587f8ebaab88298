/- Pack: the weights of a machine. -/
import Derived.Test.YtbdlfegfepggnaaGreatDoorPk9
set_option linter.all false
set_option maxHeartbeats 16000000
set_option maxRecDepth 100000
noncomputable section
namespace Go.Proofs
open Tryz Go.Ab Go.Pl Go.Cnt Go.Shelf Go.Sort Go.Lib
attribute [local go_sem] zaW zaj
def wtsA(a:List Arc):List Str:=a.map (·.w)
def wtsS(s:Sta):List Str:=(if s.f=[]then []else [s.f])++wtsA s.a
def wtsT(m:Mach)(i:Nat):List Str:=m.l::(m.q.take i).flatMap wtsS
def wtsM(m:Mach):List Str:=m.l::m.q.flatMap wtsS
def wtsT_all(m:Mach):wtsT m m.q.length=wtsM m:=by unfold wtsT wtsM;rw[Ym]
def zvU(m:Mach)(i:Nat)(h:i<m.q.length):wtsT m (i+1)=wtsT m i++wtsS (nthQ m.q i):=by unfold wtsT;rw[show m.q.take (i+1)=m.q.take i++[nthQ m.q i]from staR.take_nth m.q i h,List.flatMap_append];simp
def zvV(m:Mach):∀i,i≤m.q.length→(wtsT m i).length≤(wtsM m).length:=fun i h=>by
 unfold wtsT wtsM;have:m.q.flatMap wtsS=(m.q.take i).flatMap wtsS++(m.q.drop i).flatMap wtsS:=by rw[←List.flatMap_append,Yae]
 rw[this];simp
def wts(m:Mach):List Str:=compact (srtS (wtsM m))
def zhZ {π:Nat→Nat}{N:Nat→Prop}(L:List Str)(x:Str):LRel (Rn π N) (strs L++strs [x]) (strs L++strs [x]):=by rw[←zbj];exact zA (zaN _)
def srtR_eq(b m:Nat)(X:List Str)(bs:ZH)(nx:Nat)(hb:zL bs b=some (.cells (strs X)))(hm:m=X.length)(hX:X.length≤1000000)(hk:((keysB bs).all fun b=>decide (b<nx))=true):conD SrtR [.sl b 0 m 1 none] ⟨bs,nx⟩=some ⟨True,.tup [],(⟨bs,nx⟩:Hp).put b (.cells (strs (srtS X))),[b],[b]⟩:=by subst hm;have h:=zwD (ex:=[]) (c:=fun X m=>m≤X.length∧X.length≤1000000) (g:=fun X m=>srtS (X.take m)++X.drop m) (v:=fun _ _ _=>V.tup []) b X.length X bs nx hb ⟨Yc _,hX⟩ hk;rw[Ym,List.drop_length,Y7]at h;exact h
def cmpR_eq(b m:Nat)(X:List Str)(bs:ZH)(nx:Nat)(hb:zL bs b=some (.cells (strs X)))(hm:m=X.length)(hX:X.length≤1000000)(hk:((keysB bs).all fun b=>decide (b<nx))=true):conD CmpR [.sl b 0 m 1 none] ⟨bs,nx⟩=some ⟨True,.sl b 0 (compact X).length 1 none,(⟨bs,nx⟩:Hp).put b (.cells (strs (compact X++zerS (X.length-(compact X).length)))),[b],[b]⟩:=by subst hm;have h:=zwD (ex:=[]) (c:=fun X m=>m≤X.length∧X.length≤1000000) (g:=fun X m=>(ziq X m++zerS (m-(ziq X m).length))++X.drop m) (v:=fun X m b=>V.sl b 0 (ziq X m).length 1 none) b X.length X bs nx hb ⟨Yc _,hX⟩ hk;dsimp only[ziq]at h;rw[Ym,List.drop_length,Y7]at h;exact h
def zsR(m:Mach)(hm:(wtsM m).length≤500000)(hq:m.q.length≤500000):PCall prog 22 [zU m] (.ret (.fs (strs (wts m)) (wts m).length)):=by
 obtain⟨k,st,ld,q⟩:=m;unfold zU;dsimp only;refine PCall.walk (rs:=[.tmp 2]) [0,1,2,3,5,7,12,13,14,15,20,27,28,29,30] [] mixed (zh) (zJ (zV zwp) (zJ (zV zzr) zf)) call22 func22 rfl ntmps22 rfl Zk Zs (by simp[push_cast,zaj]) ?_;simp(disch:=try exact Zq)only[go_sem];have hΓ:=zh (P:=prog);have hΔ:zaP prog (za8 59 (conD SrtR) (za8 60 (conD CmpR) noΔ)):=zJ (zV zwp) (zJ (zV zzr) zf);obtain⟨m,hmE⟩:∃m,m=Mach.mk k st ld q:=⟨_,rfl⟩;have hml:m.l=ld:=by rw[hmE]
 have hmq:m.q=q:=by rw[hmE]
 rw[←hmE]at hm ⊢;have hq:q.length≤500000:=hq;refine AXs.loop mixed (hΓ) (hΔ) (ι:=Nat×List Str) (fun i=>[(14,.int .i64 i.1),(13,.int .i64 q.length),(12,.fs (stas q) q.length),(3,.sl 1 0 i.2.length 1 none),(1,.ptr 0 0)]) (fun i=>⟨[(1,.cells (strs i.2)),(0,.cells [.int .i64 k,.int .i64 st,.str ld,.fs (stas q) q.length])],2⟩) (fun i=>i.1≤q.length∧i.2=wtsT m i.1) (fun i=>q.length-i.1) (0,[ld]) Zk ⟨Yk _,by show [ld]=wtsT m 0;unfold wtsT;rw[hml];rfl⟩ (Xa [] rfl rfl ?_ ?_) ?_
 ·simp only[go_sem]
 ·simp only[go_sem];rfl
 rintro⟨i,L⟩ ⟨g1,g2⟩;dsimp only at g1 g2;have hLl:L.length≤500000:=by rw[g2];exact Ys (zvV m i (by rw[hmq];exact g1)) hm
 simp(disch:=try exact Zq)only[go_sem];refine Xb (fun hc=>?_) (fun hc=>?_)
 ·have hi:i<q.length:=Zo;have at1:=zbU q i hi;have hsu:=zvU m i (by rw[hmq];exact hi);rw[hmq]at hsu;have hnx:(wtsT m (i+1)).length≤500000:=Ys (zvV m (i+1) (by rw[hmq];exact hi)) hm;have ei:(i:Int)+1=((i+1:Nat):Int):=Zo;obtain⟨s,hs⟩:∃s,s=nthQ q i:=⟨_,rfl⟩;rw[←hs]at at1 hsu;simp(disch:=try exact Zq)only[go_sem,at1];refine⟨Zo,Xk (fun hf=>?_) (fun hf=>?_)⟩
  ·have hB:∃B,B=L++[s.f]:=⟨_,rfl⟩;obtain⟨B,hB⟩:=hB;have hall:wtsT m (i+1)=B++wtsA s.a:=by rw[hsu,←g2,wtsS,Yh hf,hB];simp
   have hBl:B.length+s.a.length≤500000:=by rw[hall,Yd,wtsA,Y5]at hnx;exact hnx
   simp(disch:=try exact Zq)only[go_sem,Ym]
   (repeat refine sdC ?_);refine AXs.loop mixed (hΓ) (hΔ) (ι:=Nat×List Str) (fun j=>[(29,.int .i64 j.1),(28,.int .i64 s.a.length),(27,.fs (arcs s.a) s.a.length),(5,.ptr 2 0),(14,.int .i64 i),(13,.int .i64 q.length),(12,.fs (stas q) q.length),(3,.sl 1 0 j.2.length 1 none),(1,.ptr 0 0)]) (fun j=>⟨[(2,.cells [.str s.f,.fs (arcs s.a) s.a.length]),(1,.cells (strs j.2)),(0,.cells [.int .i64 k,.int .i64 st,.str ld,.fs (stas q) q.length])],3⟩) (fun j=>j.1≤s.a.length∧j.2=B++wtsA (s.a.take j.1)) (fun j=>s.a.length-j.1) (0,B) Zk ⟨Yk _,by show B=B++[];simp⟩ (Xa [(1,4)] rfl rfl ?_ ?_) ?_
   ·simp only[go_sem,hB,zbj,Yd,YZ]
   ·simp only[go_sem,hB,zbj,Yd,YZ];exact zhZ L s.f
   rintro⟨j,M⟩ ⟨p1,p2⟩;dsimp only at p1 p2;have hMl:M.length≤500000:=by rw[p2,Yd,wtsA,Y5,Yx];omega
   simp(disch:=try exact Zq)only[go_sem];refine Xb (fun hd=>?_) (fun hd=>?_)
   ·have hj:j<s.a.length:=Zo;have at2:=zbL s.a j hj;have ej:(j:Int)+1=((j+1:Nat):Int):=Zo;simp(disch:=try exact Zq)only[go_sem,at2,Ym,ej]
    (repeat refine sdC ?_);have hM2:M++[(nthA s.a j).w]=B++wtsA (s.a.take (j+1)):=by rw[p2,show s.a.take (j+1)=s.a.take j++[nthA s.a j]from arcR.take_nth s.a j hj,wtsA,wtsA,YV,YR];rfl
    refine zi (j+1,M++[(nthA s.a j).w]) ⟨hj,hM2⟩ (by show s.a.length-(j+1)<s.a.length-j;omega) (Xa [(1,5)] rfl rfl ?_ ?_)
    ·simp only[go_sem,Yd,YZ]
    simp only[go_sem,zbj];exact zhZ _ _
   obtain rfl:j=s.a.length:=Zo;rw[Ym,←hall]at p2;simp(disch:=try exact Zq)only[go_sem];refine AXa.go mixed (hΓ) (hΔ) Zk ?_;simp(disch:=try exact Zq)only[go_sem,ei];refine zi (i+1,M) ⟨hi,p2⟩ (by show q.length-(i+1)<q.length-i;omega) (Xa [] rfl rfl ?_ ?_)
   ·simp only[go_sem]
   simp only[go_sem]
  have hB:∃B,B=L:=⟨_,rfl⟩;obtain⟨B,hB⟩:=hB;have hall:wtsT m (i+1)=B++wtsA s.a:=by rw[hsu,←g2,wtsS,Yi hf,hB];simp
  have hBl:B.length+s.a.length≤500000:=by rw[hall,Yd,wtsA,Y5]at hnx;exact hnx
  simp(disch:=try exact Zq)only[go_sem,Ym]
  (repeat refine sdC ?_);refine AXs.loop mixed (hΓ) (hΔ) (ι:=Nat×List Str) (fun j=>[(29,.int .i64 j.1),(28,.int .i64 s.a.length),(27,.fs (arcs s.a) s.a.length),(5,.ptr 2 0),(14,.int .i64 i),(13,.int .i64 q.length),(12,.fs (stas q) q.length),(3,.sl 1 0 j.2.length 1 none),(1,.ptr 0 0)]) (fun j=>⟨[(2,.cells [.str s.f,.fs (arcs s.a) s.a.length]),(1,.cells (strs j.2)),(0,.cells [.int .i64 k,.int .i64 st,.str ld,.fs (stas q) q.length])],3⟩) (fun j=>j.1≤s.a.length∧j.2=B++wtsA (s.a.take j.1)) (fun j=>s.a.length-j.1) (0,B) Zk ⟨Yk _,by show B=B++[];simp⟩ (Xa [] rfl rfl ?_ ?_) ?_
  ·simp only[go_sem,hB,zbj,Yd,YZ]
  ·simp only[go_sem,hB,zbj,Yd,YZ];skip
  rintro⟨j,M⟩ ⟨p1,p2⟩;dsimp only at p1 p2;have hMl:M.length≤500000:=by rw[p2,Yd,wtsA,Y5,Yx];omega
  simp(disch:=try exact Zq)only[go_sem];refine Xb (fun hd=>?_) (fun hd=>?_)
  ·have hj:j<s.a.length:=Zo;have at2:=zbL s.a j hj;have ej:(j:Int)+1=((j+1:Nat):Int):=Zo;simp(disch:=try exact Zq)only[go_sem,at2,Ym,ej]
   (repeat refine sdC ?_);have hM2:M++[(nthA s.a j).w]=B++wtsA (s.a.take (j+1)):=by rw[p2,show s.a.take (j+1)=s.a.take j++[nthA s.a j]from arcR.take_nth s.a j hj,wtsA,wtsA,YV,YR];rfl
   refine zi (j+1,M++[(nthA s.a j).w]) ⟨hj,hM2⟩ (by show s.a.length-(j+1)<s.a.length-j;omega) (Xa [(1,5)] rfl rfl ?_ ?_)
   ·simp only[go_sem,Yd,YZ]
   simp only[go_sem,zbj];exact zhZ _ _
  obtain rfl:j=s.a.length:=Zo;rw[Ym,←hall]at p2;simp(disch:=try exact Zq)only[go_sem];refine AXa.go mixed (hΓ) (hΔ) Zk ?_;simp(disch:=try exact Zq)only[go_sem,ei];refine zi (i+1,M) ⟨hi,p2⟩ (by show q.length-(i+1)<q.length-i;omega) (Xa [] rfl rfl ?_ ?_)
  ·simp only[go_sem]
  simp only[go_sem]
 obtain rfl:i=q.length:=Zo;have hLM:L=wtsM m:=by rw[g2,←hmq,wtsT_all]
 have hsl:=zku L;have hcl:=ze9 (srtS L);simp(disch:=try exact Zq)only[go_sem];refine AXa.go mixed (hΓ) (hΔ) Zk ?_;simp(disch:=try exact Zp)only[go_sem,srtR_eq,cmpR_eq];have hw:compact (srtS L)=wts m:=by rw[hLM];rfl
 rw[hw]at hcl ⊢;refine Xt (cs:=strs (wts m++zerS ((srtS L).length-(wts m).length))) rfl ?_ ?_ (zaN _)
 ·rw[zO,Yd];omega
 rw[Y1,Yag,zfr,List.take_left]
def cWts:ZV:=zC (fun m:Mach=>[zU m]) (fun m=>(wtsM m).length≤500000∧m.q.length≤500000) fun m=>.ret (.fs (strs (wts m)) (wts m).length)
def cWts_eq(m:Mach)(h:(wtsM m).length≤500000)(h2:m.q.length≤500000):cWts [zU m]=some (.ret (.fs (strs (wts m)) (wts m).length)):=zo (pat:=fun m:Mach=>[zU m]) (fun x y h=>zbD (by simpa using h)) m ⟨h,h2⟩
def cWts_ok:ZC cWts 22:=zn fun m h=>zsR m h.1 h.2
end Go.Proofs

namespace Go.Proofs
open Tryz Go.Ab Go.Pl Go.Cnt Go.RowKit
def zxT:∀ {i:Nat} {l l':Ens},mpS i l=mpS i l'→l=l'
 |_,[],[],_=>rfl
 |_,[],_::_,h=>by simp[mpS]at h
 |_,_::_,[],h=>by simp[mpS]at h
 |i,e::l,e'::l',h=>by simp only[mpS,Yw,Ybr,V.str.injEq,V.int.injEq,Yaf]at h;rw[zxT h.2,Yai h.1.1 h.1.2]
def mpB_inj {l l':Ens}(h:some (mpB l)=some (mpB l')):l=l':=by simp only[mpB,YJ,Blk.mp.injEq]at h;exact zxT h.1
def zrC {x x':Lay}{k k':Nat}(h:layV x k=layV x' k'):x=x'∧k=k':=by obtain⟨a,b,c,d⟩:=x;obtain⟨a',b',c',d'⟩:=x';simp only[layV,V.agg.injEq,Yw,V.int.injEq,V.map.injEq,Yaf,Yap]at h;obtain⟨h1,h2,h3,h4,h5⟩:=h;refine⟨?_,h5⟩;rw[show a=a' by omega,show b=b' by omega,show c=c' by omega,show d=d' by omega]
def zkr {s s':Sta}(h:staV s=staV s'):s=s':=by obtain⟨f,a⟩:=s;obtain⟨f',a'⟩:=s';simp only[staV,V.agg.injEq,Yw,V.str.injEq,V.fs.injEq,Yap]at h;rw[h.1,arcs_inj h.2.1]
def zm0 {π:Nat→Nat}{N:Nat→Prop}(l:Ens):RnB π N (mpB l) (mpB l):=(zkF l).2 trivial
def zq6(s:Sta):Pure (staV s):=.agg fun x hx=>by
 simp only[Yy,YaE,Yce]at hx;rcases hx with rfl|rfl
 ·exact .str _
 exact .fs (zA8 _)
def lay_rn {π:Nat→Nat}{N:Nat→Prop}(x:Lay){a b:Nat}(ha:N a)(hb:π a=b):Rn π N (layV x a) (layV x b):=by
 subst hb;refine .agg rfl fun i u v hu hv=>?_;match i with
 |0=>cases hu;cases hv;exact .same (.int _ _)
 |1=>cases hu;cases hv;exact .same (.int _ _)
 |2=>cases hu;cases hv;exact .same (.int _ _)
 |3=>cases hu;cases hv;exact .same (.int _ _)
 |4=>cases hu;cases hv;exact .map ha
 |i+5=>simp at hu
def LayS(x:Lay):Prop:=x.nm≤1000000∧x.wt≤1000000∧x.st≤1000000∧x.ar≤1000000
def SizeR(args:ZA)(H:Hp)(r:AR):Prop:=∃x k s m,args=[layV x k,staV s]∧(∀b x,H.get b=some x→b<H.next)∧LayS x∧s.a.length≤1000000∧H.get k=some (mpB m)∧r=⟨True,.int .i64 (zcf x s:Nat),H,[k],[]⟩
def sizeR_ok:∀args H r,SizeR args H r→HCall prog 23 args H r:=by
 rintro args H r ⟨x,k,s,m,rfl,hk,hx,hs,hm,rfl⟩;have hF:∀(i:Nat)(y:Blk),([mpB m]:List Blk)[i]? =some y→∀π N,RnB π N y y:=fun i y hy π N=>by
  match i with
  |0=>cases hy;exact zm0 m
  |i+1=>simp at hy
 refine HCall.none (size_N x s m hx hs) (.int _ _) [k] _ H rfl Zs ⟨rfl,fun i u v hu hv=>?_⟩ (fun i y hy=>?_) hF hk
 ·match i with
  |0=>cases hu;cases hv;exact lay_rn x (π:=fun i=>[k].getD i 0) (YaH.2 rfl) rfl
  |1=>cases hu;cases hv;exact .same (zq6 s)
  |i+2=>simp at hu
 match i with
 |0=>cases hy;exact⟨k,rfl,hm,zm0 m⟩
 |i+1=>simp at hy
def size_eq(nm wt st ar k n:Nat)(f:Str)(a:List Arc)(m:Ens)(bs:ZH)(nx:Nat)(hm:zL bs k=some (mpB m))(hn:n=a.length)(h1:nm≤1000000)(h2:wt≤1000000)(h3:st≤1000000)(h4:ar≤1000000)(hs:a.length≤1000000)(hk:((keysB bs).all fun b=>decide (b<nx))=true):conD SizeR [.agg [.int .i64 (nm:Nat),.int .i64 (wt:Nat),.int .i64 (st:Nat),.int .i64 (ar:Nat),.map k],.agg [.str f,.fs (arcs a) n]] ⟨bs,nx⟩=some ⟨True,.int .i64 (zcf ⟨nm,wt,st,ar⟩ ⟨f,a⟩:Nat),⟨bs,nx⟩,[k],[]⟩:=by
 subst hn;have hR:SizeR [layV ⟨nm,wt,st,ar⟩ k,staV ⟨f,a⟩] ⟨bs,nx⟩ ⟨True,.int .i64 (zcf ⟨nm,wt,st,ar⟩ ⟨f,a⟩:Nat),⟨bs,nx⟩,[k],[]⟩:=
  ⟨_,k,_,m,rfl,zaX hk,⟨h1,h2,h3,h4⟩,hs,(zF bs k).trans hm,rfl⟩
 refine zat hR ?_;rintro r' ⟨x',k',s',m',e,_,_,_,_,rfl⟩;simp only[Yw,Yap]at e;obtain⟨rfl,rfl⟩:=zrC (x:=⟨nm,wt,st,ar⟩) (k:=k) e.1;obtain rfl:=zkr (s:=⟨f,a⟩) e.2;rfl
def StaR(args:ZA)(H:Hp)(r:AR):Prop:=∃x k s m b c l la fr,args=[layV x k,.ptr b 0,staV s]∧(∀b x,H.get b=some x→b<H.next)∧LayOK x m∧s.a.length≤100000∧(∀a∈s.a,zgN a)∧okW (l,la,fr)∧l.length≤50000000∧
 H.get k=some (mpB m)∧H.get b=some (wB c l.length la fr)∧H.get c=some (bly l)∧
 r=⟨True,.tup [],((H.put b (wB H.next (numL (staP x m s) (l,la,fr)).1.length (numL (staP x m s) (l,la,fr)).2.1 (numL (staP x m s) (l,la,fr)).2.2)).kill c).new (bly (numL (staP x m s) (l,la,fr)).1),[b,c,k],[b,c]⟩
def idx3 {b c k:Nat}(h1:b≠c)(h2:b≠k)(h3:c≠k):List.idxOf c [b,c,k]=1∧List.idxOf k [b,c,k]=2:=by
 have e1:(b==c)=false:=by simpa using h1
 have e2:(b==k)=false:=by simpa using h2
 have e3:(c==k)=false:=by simpa using h3
 constructor
 ·rw[List.idxOf_cons,e1];simp
 rw[List.idxOf_cons,e2,Yb2,List.idxOf_cons,e3];simp
def staR_ok:∀args H r,StaR args H r→HCall prog 30 args H r:=by
 rintro args H r ⟨x,k,s,m,b,c,l,la,fr,rfl,hk,hx,hs,ha,hw,hl,hm,hb,hc,rfl⟩;have n1:b≠c:=by rintro rfl;rw[hb]at hc;cases hc
 have n2:b≠k:=by rintro rfl;rw[hb]at hm;cases hm
 have n3:c≠k:=by rintro rfl;rw[hc]at hm;cases hm
 obtain⟨i1,i2⟩:=idx3 n1 n2 n3;have tb:zu [b,c,k] H.next b=0:=by unfold zu;rw[Yi (hk b _ hb)];simp
 have tc:zu [b,c,k] H.next c=1:=by unfold zu;rw[Yi (hk c _ hc)];exact i1
 have tk:zu [b,c,k] H.next k=2:=by unfold zu;rw[Yi (hk k _ hm)];exact i2
 have tn:zu [b,c,k] H.next H.next=3:=by unfold zu;rw[Yh Zo];simp
 obtain⟨S,hS⟩:∃S,S=numL (staP x m s) (l,la,fr):=⟨_,rfl⟩;have hN:=state_N x s m l la fr hx hs ha hw hl;rw[←hS]at hN ⊢;refine HCall.of hN [b,c,k] _ (.tup []) H (((H.put b (wB H.next S.1.length S.2.1 S.2.2)).kill c).new (bly S.1)) rfl (by simp[n1,n2,n3]) ⟨rfl,fun i u v hu hv=>?_⟩ (fun i y hy=>?_) (.same (.tup Zs)) (by show H.next+1+3=H.next+4;omega) (fun b' x' hx'=>?_) (fun b' hb' hw'=>?_)
 ·match i with
  |0=>cases hu;cases hv;exact lay_rn x (π:=fun i=>[b,c,k].getD i 0) (a:=2) (Yz _) rfl
  |1=>cases hu;cases hv;exact .ptr (π:=fun i=>[b,c,k].getD i 0) (b:=0) (YaW _)
  |2=>cases hu;cases hv;exact .same (zq6 s)
  |i+3=>simp at hu
 ·match i with
  |0=>cases hy;exact⟨b,_,rfl,hb,zsS (π:=fun i=>[b,c,k].getD i 0) (c:=1) (by show 1<3;omega)⟩
  |1=>cases hy;exact⟨c,_,rfl,hc,zbo l⟩
  |2=>cases hy;exact⟨k,_,rfl,hm,zm0 m⟩
  |i+3=>simp at hy
 ·rw[Xd]at hx';split at hx'
  ·rename_i he;have he':b'=H.next:=he;subst he';cases hx';refine .inr ⟨.inr ⟨Yc _,Yz _⟩,bly S.1,?_,zbo _⟩;rw[tn];rfl
  rw[Xg]at hx';split at hx'
  ·cases hx'
  rename_i hec;rw[Xe]at hx';split at hx'
  ·rename_i he;subst he;rw[hb]at hx';cases hx';refine .inr ⟨.inl Zs,wB 3 S.1.length S.2.1 S.2.2,?_,?_⟩
   ·rw[tb];rfl
   have:=zsS (π:=zu [b',c,k] H.next) (N:=fun b=>b∈[b',c,k]∨(H.next≤b∧b<H.next+1)) (c:=H.next) (n:=S.1.length) (a:=S.2.1) (b:=S.2.2) (.inr ⟨Yc _,Yz _⟩);rwa [tn]at this
  rename_i he;by_cases hek:b'=k
  ·subst hek;rw[hm]at hx';cases hx';refine .inr ⟨.inl Zs,mpB m,?_,zm0 m⟩;rw[tk];rfl
  exact .inl ⟨hk b' _ hx',by simp[he,hec,hek],hx'⟩
 have h1:b'≠H.next:=Zo;have h2:b'≠b∧b'≠c:=by simpa using hw'
 rw[Xd,Yh (show ¬b'=((H.put b _).kill c).next from h1),Xg,Yh h2.2,Xe,Yh h2.1]
def state_eq(nm wt st ar k n b c z la fr:Nat)(f:Str)(a:List Arc)(m:Ens)(l:ZL)(bs:ZH)(nx:Nat)(hm:zL bs k=some (mpB m))(hn:n=a.length) (hb:zL bs b=some (.cells [.sl c 0 z 1 none,.int .i64 0,.int .i8 0,.int .u8 (la:Nat),.int .i64 (fr:Nat)])) (hc:zL bs c=some (bly l)) (hz:z=l.length) (hx:LayOK ⟨nm,wt,st,ar⟩ m) (hs:a.length≤100000) (ha:∀x∈a,zgN x) (hw:okW (l,la,fr)) (hl:l.length≤50000000) (hk:((keysB bs).all fun b=>decide (b<nx))=true):conD StaR [.agg [.int .i64 (nm:Nat),.int .i64 (wt:Nat),.int .i64 (st:Nat),.int .i64 (ar:Nat),.map k],.ptr b 0,.agg [.str f,.fs (arcs a) n]] ⟨bs,nx⟩=some ⟨True,.tup [],(((⟨bs,nx⟩:Hp).put b (.cells [.sl nx 0 (numL (staP ⟨nm,wt,st,ar⟩ m ⟨f,a⟩) (l,la,fr)).1.length 1 none,.int .i64 0,.int .i8 0,.int .u8 ((numL (staP ⟨nm,wt,st,ar⟩ m ⟨f,a⟩) (l,la,fr)).2.1:Nat),.int .i64 ((numL (staP ⟨nm,wt,st,ar⟩ m ⟨f,a⟩) (l,la,fr)).2.2:Nat)])).kill c).new (bly (numL (staP ⟨nm,wt,st,ar⟩ m ⟨f,a⟩) (l,la,fr)).1),[b,c,k],[b,c]⟩:=by
 subst hn hz;have hR:StaR [layV ⟨nm,wt,st,ar⟩ k,.ptr b 0,staV ⟨f,a⟩] ⟨bs,nx⟩ _:=
  ⟨_,k,_,m,b,c,l,la,fr,rfl,zaX hk,hx,hs,ha,hw,hl,(zF bs k).trans hm,(zF bs b).trans hb,(zF bs c).trans hc,rfl⟩
 refine zat hR ?_;rintro r' ⟨x',k',s',m',b',c',l',la',fr',e,_,_,_,_,_,_,hm',hb',hc',rfl⟩;simp only[Yw,V.ptr.injEq,Yap]at e;obtain⟨rfl,rfl⟩:=zrC (x:=⟨nm,wt,st,ar⟩) (k:=k) e.1;obtain rfl:=e.2.1;obtain rfl:=zkr (s:=⟨f,a⟩) e.2.2;rw[show (⟨bs,nx⟩:Hp).get k=some (mpB m)from(zF bs k).trans hm]at hm';obtain rfl:=mpB_inj hm';rw[show (⟨bs,nx⟩:Hp).get b=some (wB c l.length la fr)from(zF bs b).trans hb]at hb';obtain⟨rfl,_,e3,e4⟩:=zqS hb';obtain rfl:la=la':=Zo;obtain rfl:fr=fr':=Zo;rw[show (⟨bs,nx⟩:Hp).get c=some (bly l)from(zF bs c).trans hc]at hc';obtain rfl:=zda hc';rfl
def zjj(l:ZL)(la fr:Int):ZA→Option Wst:=fun rest=>
 open Classical in if h:∃q:List Str,rest=[.fs (strs q) q.length]∧l.length+20*q.length+sumL q≤80000000∧∀s∈q,s.length≤1000000 then some (l++za3 [] (Classical.choose h),la,fr)else none
def zwn {l:ZL}{la fr:Int}{q:List Str}(h1:l.length+20*q.length+sumL q≤80000000)(h2:∀s∈q,s.length≤1000000):zjj l la fr [.fs (strs q) q.length]=some (l++za3 [] q,la,fr):=by have hx:∃q':List Str,([.fs (strs q) q.length]:ZA)=[.fs (strs q') q'.length]∧l.length+20*q'.length+sumL q'≤80000000∧∀s∈q',s.length≤1000000:=⟨q,rfl,h1,h2⟩;unfold zjj;rw[dif_pos hx];have hc:=(Yat hx).1;have:strs q=strs (Classical.choose hx):=(V.fs.inj (List.cons.inj hc).1).1;rw[←za1 this]
def fold_ok:∀args H r,WrR zjj (.tup []) args H r→HCall prog 27 args H r:=by
 refine zmc (.tup Zs) fun l la fr rest l' la' fr' h0 hs=>?_;unfold zjj at hs;split at hs
 ·rename_i h;obtain⟨q,hq⟩:∃q,q=Classical.choose h:=⟨_,rfl⟩;have hsp:=Yat h;rw[←hq]at hsp hs;obtain⟨e,h1,h2⟩:=hsp;clear hq h;subst e;cases hs;exact⟨fun x hx=>by rw[YW.1 hx];exact .fs (zaN _),fold_N l la fr _ h0 h1 h2⟩
 cases hs
def zq9(l:ZL)(la fr:Int):ZA→Option Wst
 |[]=>if 0≤la∧0≤fr∧okW (l,la.toNat,fr.toNat)∧l.length≤90000000 then some ((zcu (l,la.toNat,fr.toNat)).1,((zcu (l,la.toNat,fr.toNat)).2.1:Int),((zcu (l,la.toNat,fr.toNat)).2.2:Int))else none
 |_=>none
def fill_ok:∀args H r,WrR zq9 (.tup []) args H r→HCall prog 31 args H r:=by
 refine zmc (.tup Zs) fun l la fr rest l' la' fr' h0 hs=>?_;unfold zq9 at hs;split at hs
 ·split at hs
  ·rename_i hx;obtain⟨a1,a2,a3,a4⟩:=hx;cases hs;refine⟨Zs,?_⟩;have:=fill_N l la.toNat fr.toNat a3 a4;rw[Int.toNat_of_nonneg a1,Int.toNat_of_nonneg a2]at this;exact this
  cases hs
 cases hs
attribute [local go_sem] zbJ
def bytes_N(l:ZL)(la fr:Int)(h0:l≠[]):NCall prog 34 [.ptr 0 0] [wB 1 l.length la fr,bly l] [] (.sl 1 0 l.length 1 none) ⟨[(0,wB 1 l.length la fr),(1,bly l)],2⟩:=by
 unfold wB;refine NCall.walk (rs:=[.tmp 2]) [0,2] [] 2 mixed (zh) (zf) call34 func34 rfl ntmps34 rfl Zk Zs Zs Zs ?_;simp(disch:=try exact Zq)only[go_sem];refine⟨Zo,AXk.intro Zk ?_⟩;simp(disch:=try exact Zq)only[go_sem];refine⟨[(2,.sl 1 0 l.length 1 none)],Sub.of [] rfl Zg Zg Zd (fun b hb hw=>?_),rfl⟩;match b,hb with
 |0,_=>rfl
 |1,_=>rfl
def BytR(args:ZA)(H:Hp)(r:AR):Prop:=∃b c l la fr,args=[.ptr b 0]∧(∀b x,H.get b=some x→b<H.next)∧l≠[]∧H.get b=some (wB c l.length la fr)∧H.get c=some (bly l)∧r=⟨True,.sl c 0 l.length 1 none,H,[b,c],[]⟩
def bytR_ok:∀args H r,BytR args H r→HCall prog 34 args H r:=by
 rintro args H r ⟨b,c,l,la,fr,rfl,hk,h0,hb,hc,rfl⟩;have hne:b≠c:=by rintro rfl;rw[hb]at hc;cases hc
 have tb:zu [b,c] H.next b=0:=by unfold zu;rw[Yi (hk b _ hb)];simp
 have tc:zu [b,c] H.next c=1:=by unfold zu;rw[Yi (hk c _ hc)];exact idx1 hne
 refine HCall.of (bytes_N l la fr h0) [b,c] _ (.sl c 0 l.length 1 none) H H rfl (by simpa using hne) (zct (YaW _) rfl Zs) (fun i x hx=>?_) ?_ rfl (fun b' x' hx'=>?_) (fun b' hb' hw=>rfl)
 ·match i with
  |0=>cases hx;exact⟨b,_,rfl,hb,zsS (π:=fun i=>[b,c].getD i 0) (c:=1) (Yz _)⟩
  |1=>cases hx;exact⟨c,_,rfl,hc,zbo l⟩
  |i+2=>simp at hx
 ·have:=Rn.sl (π:=zu [b,c] H.next) (N:=fun b'=>b'∈[b,c]∨(H.next≤b'∧b'<H.next)) (b:=c) (off:=0) (len:=l.length) (sz:=1) (kc:=none) (kc':=none) (.inl Zs) (.inl rfl);rwa [tc]at this
 by_cases h1:b'=b
 ·subst h1;rw[hb]at hx';cases hx';refine .inr ⟨.inl Zs,wB 1 l.length la fr,?_,?_⟩
  ·rw[tb];rfl
  have:=zsS (π:=zu [b',c] H.next) (N:=fun b=>b∈[b',c]∨(H.next≤b∧b<H.next)) (c:=c) (n:=l.length) (a:=la) (b:=fr) (.inl Zs);rwa [tc]at this
 by_cases h2:b'=c
 ·subst h2;rw[hc]at hx';cases hx';refine .inr ⟨.inl Zs,bly l,?_,zbo l⟩;rw[tc];rfl
 exact .inl ⟨hk b' _ hx',by simp[h1,h2],hx'⟩
def bytes_eq(b c n:Nat)(l:ZL)(la fr:Int)(bs:ZH)(nx:Nat)(hb:zL bs b=some (.cells [.sl c 0 n 1 none,.int .i64 0,.int .i8 0,.int .u8 la,.int .i64 fr]))(hc:zL bs c=some (bly l))(hn:n=l.length)(h0:l≠[])(hk:((keysB bs).all fun b=>decide (b<nx))=true):conD BytR [.ptr b 0] ⟨bs,nx⟩=some ⟨True,.sl c 0 l.length 1 none,⟨bs,nx⟩,[b,c],[]⟩:=by
 subst hn;have hR:BytR [.ptr b 0] ⟨bs,nx⟩ ⟨True,.sl c 0 l.length 1 none,⟨bs,nx⟩,[b,c],[]⟩:=⟨b,c,l,la,fr,rfl,zaX hk,h0,(zF bs b).trans hb,(zF bs c).trans hc,rfl⟩;refine zat hR ?_;rintro r' ⟨b',c',l',la',fr',e,_,_,hb',hc',rfl⟩;obtain rfl:b=b':=by simpa using e
 rw[show (⟨bs,nx⟩:Hp).get b=some (wB c l.length la fr)from(zF bs b).trans hb]at hb';obtain⟨rfl,_,_,_⟩:=zqS hb';rw[show (⟨bs,nx⟩:Hp).get c=some (bly l)from(zF bs c).trans hc]at hc';rw[zda hc']
def zlE {π:Nat→Nat}{N:Nat→Prop}(l:ZL):RnB π N (.cells (l.map zt)) (.cells (l.map zt)):=.cells (zA (zad l))
def SumR(args:ZA)(H:Hp)(r:AR):Prop:=∃c l,args=[.sl c 0 l.length 1 none]∧(∀b x,H.get b=some x→b<H.next)∧l.length≤100000000∧H.get c=some (bly l)∧r=⟨True,.sl H.next 0 4 1 (some 4),H.new (.cells ((sumB l).map zt)),[c],[]⟩
def sumR_ok:∀args H r,SumR args H r→HCall prog 33 args H r:=by
 rintro args H r ⟨c,l,rfl,hk,hl,hc,rfl⟩;have tc:zu [c] H.next c=0:=by unfold zu;rw[Yi (hk c _ hc)];simp
 have tn:zu [c] H.next H.next=1:=by unfold zu;rw[Yh Zo];simp
 refine HCall.of (zu3 l hl) [c] _ (.sl H.next 0 4 1 (some 4)) H (H.new _) rfl Zs ⟨rfl,fun i u v hu hv=>?_⟩ (fun i x hx=>?_) ?_ (by show H.next+1+1=H.next+2;omega) (fun b' x' hx'=>?_) (fun b' hb' hw=>?_)
 ·match i with
  |0=>cases hu;cases hv;exact .sl (π:=fun i=>[c].getD i 0) (b:=0) (YaH.2 rfl) (.inl rfl)
  |i+1=>simp at hu
 ·match i with
  |0=>cases hx;exact⟨c,_,rfl,hc,zbo l⟩
  |i+1=>simp at hx
 ·have:=Rn.sl (π:=zu [c] H.next) (N:=fun b'=>b'∈[c]∨(H.next≤b'∧b'<(H.new (.cells ((sumB l).map zt))).next)) (b:=H.next) (off:=0) (len:=4) (sz:=1) (kc:=some 4) (kc':=some 4) (.inr ⟨Yc _,Yz _⟩) (.inr rfl);rwa [tn]at this
 ·rw[Xd]at hx';split at hx'
  ·rename_i he;subst he;cases hx';refine .inr ⟨.inr ⟨Yc _,Yz _⟩,.cells ((sumB l).map zt),?_,zlE _⟩;rw[tn];rfl
  by_cases h2:b'=c
  ·subst h2;rw[hc]at hx';cases hx';refine .inr ⟨.inl Zs,bly l,?_,zbo l⟩;rw[tc];rfl
  exact .inl ⟨hk b' _ hx',by simp[h2],hx'⟩
 rw[Xd,Yh Zo]
def sum_eq(c n:Nat)(l:ZL)(bs:ZH)(nx:Nat)(hc:zL bs c=some (bly l))(hn:n=l.length)(hl:l.length≤100000000)(hk:((keysB bs).all fun b=>decide (b<nx))=true):conD SumR [.sl c 0 n 1 none] ⟨bs,nx⟩=some ⟨True,.sl nx 0 4 1 (some 4),⟨(nx,.cells ((sumB l).map zt))::bs,nx+1⟩,[c],[]⟩:=by subst hn;have hR:SumR [.sl c 0 l.length 1 none] ⟨bs,nx⟩ ⟨True,.sl nx 0 4 1 (some 4),⟨(nx,.cells ((sumB l).map zt))::bs,nx+1⟩,[c],[]⟩:=⟨c,l,rfl,zaX hk,hl,(zF bs c).trans hc,rfl⟩;refine zat hR ?_;rintro r' ⟨c',l',e,_,_,hc',rfl⟩;simp only[Yw,V.sl.injEq,Yap,Yaf]at e;obtain⟨rfl,_⟩:=e;rw[show (⟨bs,nx⟩:Hp).get c=some (bly l)from(zF bs c).trans hc]at hc';rw[zda hc'];rfl
def WrtR(args:ZA)(H:Hp)(r:AR):Prop:=∃b c d l s la fr,args=[.ptr b 0,.sl d 0 4 1 (some 4)]∧(∀b x,H.get b=some x→b<H.next)∧l≠[]∧l.length≤100000000∧s.length=4∧H.get b=some (wB c l.length la fr)∧H.get c=some (bly l)∧H.get d=some (.cells (s.map zt))∧b≠d∧
 r=⟨True,.tup [.int .i64 4,.nilI],((H.put b (wB H.next (l++s).length la fr)).kill c).new (bly (l++s)),[b,c,d],[b,c]⟩
def wrtR_ok:∀args H r,WrtR args H r→HCall prog 32 args H r:=by
 rintro args H r ⟨b,c,d,l,s,la,fr,rfl,hk,h0,hl,hs,hb,hc,hd,hbd,rfl⟩;have hcd:c≠d:=by rintro rfl;rw[hc]at hd;cases hd
 have h:=write_H (k:=4) (kc:=some 4) (rest:=[]) s h0 hl (fun e=>by rw[e]at hs;simp at hs) Zo hb hc (by rw[Y7];exact hd) hbd hcd hs.symm;rw[hs]at h;exact h
def wrt_eq(b c d n:Nat)(l s:ZL)(la fr:Int)(bs:ZH)(nx:Nat)(hb:zL bs b=some (.cells [.sl c 0 n 1 none,.int .i64 0,.int .i8 0,.int .u8 la,.int .i64 fr]))(hc:zL bs c=some (bly l))(hd:zL bs d=some (.cells (s.map zt)))(hn:n=l.length)(h0:l≠[])(hl:l.length≤100000000)(hs:s.length=4)(hbd:(b==d)=false)(hk:((keysB bs).all fun b=>decide (b<nx))=true):conD WrtR [.ptr b 0,.sl d 0 4 1 (some 4)] ⟨bs,nx⟩=some ⟨True,.tup [.int .i64 4,.nilI],(((⟨bs,nx⟩:Hp).put b (.cells [.sl nx 0 (l++s).length 1 none,.int .i64 0,.int .i8 0,.int .u8 la,.int .i64 fr])).kill c).new (bly (l++s)),[b,c,d],[b,c]⟩:=by
 subst hn;have hR:WrtR [.ptr b 0,.sl d 0 4 1 (some 4)] ⟨bs,nx⟩ ⟨True,.tup [.int .i64 4,.nilI],(((⟨bs,nx⟩:Hp).put b (wB nx (l++s).length la fr)).kill c).new (bly (l++s)),[b,c,d],[b,c]⟩:=
  ⟨b,c,d,l,s,la,fr,rfl,zaX hk,h0,hl,hs,(zF bs b).trans hb,(zF bs c).trans hc,(zF bs d).trans hd,by simpa using hbd,rfl⟩
 refine zat hR ?_;rintro r' ⟨b',c',d',l',s',la',fr',e,_,_,_,_,hb',hc',hd',_,rfl⟩;simp only[Yw,V.ptr.injEq,V.sl.injEq,Yap,Yaf]at e;obtain⟨rfl,rfl⟩:=e;rw[show (⟨bs,nx⟩:Hp).get b=some (wB c l.length la fr)from(zF bs b).trans hb]at hb';obtain⟨rfl,_,rfl,rfl⟩:=zqS hb';rw[show (⟨bs,nx⟩:Hp).get c=some (bly l)from(zF bs c).trans hc]at hc';obtain rfl:=zda hc';rw[show (⟨bs,nx⟩:Hp).get d=some (.cells (s.map zt))from(zF bs d).trans hd]at hd';have:s.map zt=s'.map zt:=by simpa using hd'
 rw[zex this];rfl
def Wst0(args:ZA)(H:Hp)(r:AR):Prop:=∃b s la fr,args=[.ptr b 0,.str s]∧s≠[]∧s.length≤64∧H.get b=some (wr0 [.int .u8 la,.int .i64 fr])∧r=⟨True,.tup [.int .i64 s.length,.nilI],(H.put b (wB H.next s.length la fr)).new (bly s),[b],[b]⟩
def wst0_ok:∀args H r,Wst0 args H r→HCall prog 24 args H r:=by rintro args H r ⟨b,s,la,fr,rfl,h0,hl,hb,rfl⟩;exact wfirst_H s h0 hl hb
def WsA(args:ZA)(H:Hp)(r:AR):Prop:=Wst0 args H r∨WsB args H r
def wsA_ok:∀args H r,WsA args H r→HCall prog 24 args H r:=fun args H r h=>h.elim (wst0_ok args H r) (zvW args H r)
def ws0_eq(b:Nat)(s:ZL)(la fr:Int)(bs:ZH)(nx:Nat)(hb:zL bs b=some (.cells [.nilS,.int .i64 0,.int .i8 0,.int .u8 la,.int .i64 fr]))(h0:s≠[])(hl:s.length≤64):conD WsA [.ptr b 0,.str s] ⟨bs,nx⟩=some ⟨True,.tup [.int .i64 s.length,.nilI],((⟨bs,nx⟩:Hp).put b (.cells [.sl nx 0 s.length 1 none,.int .i64 0,.int .i8 0,.int .u8 la,.int .i64 fr])).new (bly s),[b],[b]⟩:=by
 have hg:(⟨bs,nx⟩:Hp).get b=some (wr0 [.int .u8 la,.int .i64 fr]):=(zF bs b).trans hb;have hR:WsA [.ptr b 0,.str s] ⟨bs,nx⟩ ⟨True,.tup [.int .i64 s.length,.nilI],((⟨bs,nx⟩:Hp).put b (wB nx s.length la fr)).new (bly s),[b],[b]⟩:=.inl ⟨b,s,la,fr,rfl,h0,hl,hg,rfl⟩;refine zat hR ?_;rintro r' (⟨b',s',la',fr',e,_,_,hb',rfl⟩|⟨b',s',e,b2,c,l,la',fr',rest,l',la2,fr2,e2,_,_,hb',_⟩)
 ·simp only[Yw,V.ptr.injEq,V.str.injEq,Yap]at e;obtain⟨rfl,rfl⟩:=e;rw[hg]at hb';simp only[wr0,YJ,Blk.cells.injEq,Yw,V.int.injEq,Yaf,Yap]at hb';obtain⟨rfl,rfl⟩:=hb';rfl
 rw[e]at e2;simp only[Yw,V.ptr.injEq,Yap]at e e2;obtain⟨rfl,_⟩:=e2;obtain⟨rfl,_⟩:=e;rw[hg]at hb';simp[wr0,wB]at hb'
def Δp:FuncId→ZA→Hp→Option AR:=
 za8 23 (conD SizeR) (za8 30 (conD StaR) (za8 24 (conD WsA) (za8 25 (conD (WrR zmq .nilI)) (za8 26 (conD (WrR zwl (.tup [])))
  (za8 27 (conD (WrR zjj (.tup []))) (za8 28 (conD (WrR zte (.tup []))) (za8 31 (conD (WrR zq9 (.tup []))) (za8 34 (conD BytR) (za8 33 (conD SumR) (za8 32 (conD WrtR) noΔ))))))))))
def Δp_ok:zaP prog Δp:=zJ (zV sizeR_ok) (zJ (zV staR_ok) (zJ (zV wsA_ok) (zJ (zV zqR) (zJ (zV zmd) (zJ (zV fold_ok) (zJ (zV num_ok) (zJ (zV Go.Proofs.fill_ok) (zJ (zV bytR_ok) (zJ (zV sumR_ok) (zJ (zV wrtR_ok) zf))))))))))
def zqK(nm wt st ar k n:Nat)(f:Str)(a:List Arc)(m:Ens)(bs:ZH)(nx:Nat)(hm:zL bs k=some (mpB m))(hn:n=a.length)(h1:nm≤1000000)(h2:wt≤1000000)(h3:st≤1000000)(h4:ar≤1000000)(hs:a.length≤1000000)(hk:((keysB bs).all fun b=>decide (b<nx))=true):Δp 23 [.agg [.int .i64 (nm:Nat),.int .i64 (wt:Nat),.int .i64 (st:Nat),.int .i64 (ar:Nat),.map k],.agg [.str f,.fs (arcs a) n]] ⟨bs,nx⟩=some ⟨True,.int .i64 (zcf ⟨nm,wt,st,ar⟩ ⟨f,a⟩:Nat),⟨bs,nx⟩,[k],[]⟩:=size_eq nm wt st ar k n f a m bs nx hm hn h1 h2 h3 h4 hs hk
def zvH(nm wt st ar k n b c z la fr:Nat)(f:Str)(a:List Arc)(m:Ens)(l:ZL)(bs:ZH)(nx:Nat)(hm:zL bs k=some (mpB m))(hn:n=a.length) (hb:zL bs b=some (.cells [.sl c 0 z 1 none,.int .i64 0,.int .i8 0,.int .u8 (la:Nat),.int .i64 (fr:Nat)])) (hc:zL bs c=some (bly l)) (hz:z=l.length) (hx:LayOK ⟨nm,wt,st,ar⟩ m) (hs:a.length≤100000) (ha:∀x∈a,zgN x) (hw:okW (l,la,fr)) (hl:l.length≤50000000) (hk:((keysB bs).all fun b=>decide (b<nx))=true):Δp 30 [.agg [.int .i64 (nm:Nat),.int .i64 (wt:Nat),.int .i64 (st:Nat),.int .i64 (ar:Nat),.map k],.ptr b 0,.agg [.str f,.fs (arcs a) n]] ⟨bs,nx⟩=some ⟨True,.tup [],(((⟨bs,nx⟩:Hp).put b (.cells [.sl nx 0 (numL (staP ⟨nm,wt,st,ar⟩ m ⟨f,a⟩) (l,la,fr)).1.length 1 none,.int .i64 0,.int .i8 0,.int .u8 ((numL (staP ⟨nm,wt,st,ar⟩ m ⟨f,a⟩) (l,la,fr)).2.1:Nat),.int .i64 ((numL (staP ⟨nm,wt,st,ar⟩ m ⟨f,a⟩) (l,la,fr)).2.2:Nat)])).kill c).new (bly (numL (staP ⟨nm,wt,st,ar⟩ m ⟨f,a⟩) (l,la,fr)).1),[b,c,k],[b,c]⟩:=state_eq nm wt st ar k n b c z la fr f a m l bs nx hm hn hb hc hz hx hs ha hw hl hk
def Δp_str0(b:Nat)(s:ZL)(la fr:Int)(bs:ZH)(nx:Nat)(hb:zL bs b=some (.cells [.nilS,.int .i64 0,.int .i8 0,.int .u8 la,.int .i64 fr]))(h0:s≠[])(hl:s.length≤64):Δp 24 [.ptr b 0,.str s] ⟨bs,nx⟩=some ⟨True,.tup [.int .i64 s.length,.nilI],((⟨bs,nx⟩:Hp).put b (.cells [.sl nx 0 s.length 1 none,.int .i64 0,.int .i8 0,.int .u8 la,.int .i64 fr])).new (bly s),[b],[b]⟩:=ws0_eq b s la fr bs nx hb h0 hl
def Δp_byte(b c n:Nat)(l:ZL)(la fr x:Int)(bs:ZH)(nx:Nat)(hb:zL bs b=some (.cells [.sl c 0 n 1 none,.int .i64 0,.int .i8 0,.int .u8 la,.int .i64 fr]))(hc:zL bs c=some (bly l))(hn:n=l.length)(h0:l≠[])(hl:l.length≤100000000)(hx:0≤x∧x<256)(hk:((keysB bs).all fun b=>decide (b<nx))=true):Δp 25 [.ptr b 0,.int .u8 x] ⟨bs,nx⟩=some ⟨True,.nilI,(((⟨bs,nx⟩:Hp).put b (.cells [.sl nx 0 (l++[UInt8.ofNat x.toNat]).length 1 none,.int .i64 0,.int .i8 0,.int .u8 la,.int .i64 fr])).kill c).new (bly (l++[UInt8.ofNat x.toNat])),[b,c],[b,c]⟩:=zce b c n l la fr x bs nx hb hc hn h0 hl hx hk
def zvG(b c k:Nat)(l:ZL)(la fr:Int)(n:Nat)(bs:ZH)(nx:Nat)(hb:zL bs b=some (.cells [.sl c 0 k 1 none,.int .i64 0,.int .i8 0,.int .u8 la,.int .i64 fr]))(hc:zL bs c=some (bly l))(hk':k=l.length)(h:l≠[])(hl:l.length≤90000000)(hn:n<128^6)(hk:((keysB bs).all fun b=>decide (b<nx))=true):Δp 26 [.ptr b 0,.int .i64 n] ⟨bs,nx⟩=some ⟨True,.tup [],(((⟨bs,nx⟩:Hp).put b (.cells [.sl nx 0 (l++varF 5 n).length 1 none,.int .i64 0,.int .i8 0,.int .u8 la,.int .i64 fr])).kill c).new (bly (l++varF 5 n)),[b,c],[b,c]⟩:=zj4 b c k l la fr n bs nx hb hc hk' h hl hn hk
def Δp_num(b c k:Nat)(l:ZL)(la fr:Nat)(n z:Int)(bs:ZH)(nx:Nat)(hb:zL bs b=some (.cells [.sl c 0 k 1 none,.int .i64 0,.int .i8 0,.int .u8 (la:Nat),.int .i64 (fr:Nat)]))(hc:zL bs c=some (bly l))(hk':k=l.length)(h:okW (l,la,fr))(hl:l.length≤90000000)(hn:0≤n∧n<1000000000)(hz:0≤z∧z≤60)(hk:((keysB bs).all fun b=>decide (b<nx))=true):Δp 28 [.ptr b 0,.int .i64 n,.int .i64 z] ⟨bs,nx⟩=some ⟨True,.tup [],(((⟨bs,nx⟩:Hp).put b (.cells [.sl nx 0 (numW z.toNat n.toNat (l,la,fr)).1.length 1 none,.int .i64 0,.int .i8 0,.int .u8 ((numW z.toNat n.toNat (l,la,fr)).2.1:Nat),.int .i64 ((numW z.toNat n.toNat (l,la,fr)).2.2:Nat)])).kill c).new (bly (numW z.toNat n.toNat (l,la,fr)).1),[b,c],[b,c]⟩:=zae b c k l la fr n z bs nx hb hc hk' h hl hn hz hk
def Δp_fold(b c k n:Nat)(l:ZL)(la fr:Int)(q:List Str)(bs:ZH)(nx:Nat)(hb:zL bs b=some (.cells [.sl c 0 k 1 none,.int .i64 0,.int .i8 0,.int .u8 la,.int .i64 fr]))(hc:zL bs c=some (bly l))(hk':k=l.length)(hn:n=q.length)(h:l≠[])(h1:l.length+20*q.length+sumL q≤80000000)(h2:∀s∈q,s.length≤1000000)(hk:((keysB bs).all fun b=>decide (b<nx))=true):Δp 27 [.ptr b 0,.fs (strs q) n] ⟨bs,nx⟩=some ⟨True,.tup [],(((⟨bs,nx⟩:Hp).put b (.cells [.sl nx 0 (l++za3 [] q).length 1 none,.int .i64 0,.int .i8 0,.int .u8 la,.int .i64 fr])).kill c).new (bly (l++za3 [] q)),[b,c],[b,c]⟩:=by subst hn;exact zsP (st:=zjj) (s':=(l++za3 [] q,la,fr)) hb hc hk' h (zwn h1 h2) hk
def zqL(b c k:Nat)(l:ZL)(la fr:Nat)(bs:ZH)(nx:Nat)(hb:zL bs b=some (.cells [.sl c 0 k 1 none,.int .i64 0,.int .i8 0,.int .u8 (la:Nat),.int .i64 (fr:Nat)]))(hc:zL bs c=some (bly l))(hk':k=l.length)(h:okW (l,la,fr))(hl:l.length≤90000000)(hk:((keysB bs).all fun b=>decide (b<nx))=true):Δp 31 [.ptr b 0] ⟨bs,nx⟩=some ⟨True,.tup [],(((⟨bs,nx⟩:Hp).put b (.cells [.sl nx 0 (zcu (l,la,fr)).1.length 1 none,.int .i64 0,.int .i8 0,.int .u8 ((zcu (l,la,fr)).2.1:Nat),.int .i64 ((zcu (l,la,fr)).2.2:Nat)])).kill c).new (bly (zcu (l,la,fr)).1),[b,c],[b,c]⟩:=
 zsP (st:=zq9) (s':=((zcu (l,la,fr)).1,((zcu (l,la,fr)).2.1:Int),((zcu (l,la,fr)).2.2:Int))) hb hc hk' h.2.2.2 (Yi ⟨Int.natCast_nonneg _,Int.natCast_nonneg _,h,hl⟩) hk
def zg7(b c n:Nat)(l:ZL)(la fr:Int)(bs:ZH)(nx:Nat)(hb:zL bs b=some (.cells [.sl c 0 n 1 none,.int .i64 0,.int .i8 0,.int .u8 la,.int .i64 fr]))(hc:zL bs c=some (bly l))(hn:n=l.length)(h0:l≠[])(hk:((keysB bs).all fun b=>decide (b<nx))=true):Δp 34 [.ptr b 0] ⟨bs,nx⟩=some ⟨True,.sl c 0 l.length 1 none,⟨bs,nx⟩,[b,c],[]⟩:=bytes_eq b c n l la fr bs nx hb hc hn h0 hk
def Δp_sum(c n:Nat)(l:ZL)(bs:ZH)(nx:Nat)(hc:zL bs c=some (bly l))(hn:n=l.length)(hl:l.length≤100000000)(hk:((keysB bs).all fun b=>decide (b<nx))=true):Δp 33 [.sl c 0 n 1 none] ⟨bs,nx⟩=some ⟨True,.sl nx 0 4 1 (some 4),⟨(nx,.cells ((sumB l).map zt))::bs,nx+1⟩,[c],[]⟩:=sum_eq c n l bs nx hc hn hl hk
def Δp_wrt(b c d n:Nat)(l s:ZL)(la fr:Int)(bs:ZH)(nx:Nat)(hb:zL bs b=some (.cells [.sl c 0 n 1 none,.int .i64 0,.int .i8 0,.int .u8 la,.int .i64 fr]))(hc:zL bs c=some (bly l))(hd:zL bs d=some (.cells (s.map zt)))(hn:n=l.length)(h0:l≠[])(hl:l.length≤100000000)(hs:s.length=4)(hbd:(b==d)=false)(hk:((keysB bs).all fun b=>decide (b<nx))=true):Δp 32 [.ptr b 0,.sl d 0 4 1 (some 4)] ⟨bs,nx⟩=some ⟨True,.tup [.int .i64 4,.nilI],(((⟨bs,nx⟩:Hp).put b (.cells [.sl nx 0 (l++s).length 1 none,.int .i64 0,.int .i8 0,.int .u8 la,.int .i64 fr])).kill c).new (bly (l++s)),[b,c,d],[b,c]⟩:=wrt_eq b c d n l s la fr bs nx hb hc hd hn h0 hl hs hbd hk
end Go.Proofs
