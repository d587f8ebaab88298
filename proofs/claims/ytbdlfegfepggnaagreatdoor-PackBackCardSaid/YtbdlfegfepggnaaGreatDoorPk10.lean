/- Pack: the weights of a machine. -/
import Derived.Test.YtbdlfegfepggnaaGreatDoorPk9
set_option linter.all false
set_option maxHeartbeats 16000000
set_option maxRecDepth 100000
noncomputable section
namespace Go.Proofs
open Tryz Go.Ab Go.Pl Go.Cnt Go.Shelf Go.Sort Go.Lib
attribute [local go_sem] zbE zas zcv zW
def wtsA(a:List Arc):List Str:=a.map (·.w)
def wtsS(s:Sta):List Str:=(if s.f=[]then []else [s.f])++wtsA s.a
def wtsT(m:Mach)(i:Nat):List Str:=m.l::(m.q.take i).flatMap wtsS
def wtsM(m:Mach):List Str:=m.l::m.q.flatMap wtsS
def wtsT_all(m:Mach):wtsT m m.q.length=wtsM m:=by unfold wtsT wtsM;rw[Ym]
def ztB(m:Mach)(i:Nat)(h:i<m.q.length):wtsT m (i+1)=wtsT m i++wtsS (nthQ m.q i):=by unfold wtsT;rw[show m.q.take (i+1)=m.q.take i++[nthQ m.q i]from staR.take_nth m.q i h,List.flatMap_append];simp
def ztC(m:Mach):∀i,i≤m.q.length→(wtsT m i).length≤(wtsM m).length:=fun i h=>by
 unfold wtsT wtsM;have:m.q.flatMap wtsS=(m.q.take i).flatMap wtsS++(m.q.drop i).flatMap wtsS:=by rw[←List.flatMap_append,Yaf]
 rw[this];simp
def wts(m:Mach):List Str:=compact (srtS (wtsM m))
def zhf {π:Nat→Nat}{N:Nat→Prop}(L:List Str)(x:Str):LRel (Rn π N) (strs L++strs [x]) (strs L++strs [x]):=by rw[←za4];exact zB (zaP _)
def srtR_eq(b m:Nat)(X:List Str)(bs:ZH)(nx:Nat)(hb:zG bs b=some (.cells (strs X)))(hm:m=X.length)(hX:X.length≤1000000)(hk:((keysB bs).all fun b=>decide (b<nx))=true):conD SrtR [.sl b 0 m 1 none] ⟨bs,nx⟩=some ⟨True,.tup [],(⟨bs,nx⟩:Hp).put b (.cells (strs (srtS X))),[b],[b]⟩:=by subst hm;have h:=zuj (ex:=[]) (c:=fun X m=>m≤X.length∧X.length≤1000000) (g:=fun X m=>srtS (X.take m)++X.drop m) (v:=fun _ _ _=>V.tup []) b X.length X bs nx hb ⟨Yc _,hX⟩ hk;rw[Ym,List.drop_length,Yab]at h;exact h
def cmpR_eq(b m:Nat)(X:List Str)(bs:ZH)(nx:Nat)(hb:zG bs b=some (.cells (strs X)))(hm:m=X.length)(hX:X.length≤1000000)(hk:((keysB bs).all fun b=>decide (b<nx))=true):conD CmpR [.sl b 0 m 1 none] ⟨bs,nx⟩=some ⟨True,.sl b 0 (compact X).length 1 none,(⟨bs,nx⟩:Hp).put b (.cells (strs (compact X++zerS (X.length-(compact X).length)))),[b],[b]⟩:=by subst hm;have h:=zuj (ex:=[]) (c:=fun X m=>m≤X.length∧X.length≤1000000) (g:=fun X m=>(zhA X m++zerS (m-(zhA X m).length))++X.drop m) (v:=fun X m b=>V.sl b 0 (zhA X m).length 1 none) b X.length X bs nx hb ⟨Yc _,hX⟩ hk;dsimp only[zhA]at h;rw[Ym,List.drop_length,Yab]at h;exact h
def zqS(m:Mach)(hm:(wtsM m).length≤500000)(hq:m.q.length≤500000):PCall prog 22 [zad m] (.ret (.fs (strs (wts m)) (wts m).length)):=by
 obtain⟨k,st,ld,q⟩:=m;unfold zad;dsimp only;refine PCall.walk (rs:=[.tmp 2]) [0,1,2,3,5,7,12,13,14,15,20,27,28,29,30] [] mixed (zh) (zK (zT zt6) (zK (zT zwW) zg)) call22 func22 rfl ntmps22 rfl Zk Zs (by simp[push_cast,zW]) ?_;simp(disch:=try exact Zq)only[go_sem];have hΓ:=zh (P:=prog);have hΔ:zay prog (zaQ 59 (conD SrtR) (zaQ 60 (conD CmpR) noΔ)):=zK (zT zt6) (zK (zT zwW) zg);obtain⟨m,hmE⟩:∃m,m=Mach.mk k st ld q:=⟨_,rfl⟩;have hml:m.l=ld:=by rw[hmE]
 have hmq:m.q=q:=by rw[hmE]
 rw[←hmE]at hm ⊢;have hq:q.length≤500000:=hq;refine AXs.loop mixed (hΓ) (hΔ) (ι:=Nat×List Str) (fun i=>[(14,.int .i64 i.1),(13,.int .i64 q.length),(12,.fs (stas q) q.length),(3,.sl 1 0 i.2.length 1 none),(1,.ptr 0 0)]) (fun i=>⟨[(1,.cells (strs i.2)),(0,.cells [.int .i64 k,.int .i64 st,.str ld,.fs (stas q) q.length])],2⟩) (fun i=>i.1≤q.length∧i.2=wtsT m i.1) (fun i=>q.length-i.1) (0,[ld]) Zk ⟨Yk _,by show [ld]=wtsT m 0;unfold wtsT;rw[hml];rfl⟩ (Xb [] rfl rfl ?_ ?_) ?_
 ·simp only[go_sem]
 ·simp only[go_sem];rfl
 rintro⟨i,L⟩ ⟨g1,g2⟩;dsimp only at g1 g2;have hLl:L.length≤500000:=by rw[g2];exact Yw (ztC m i (by rw[hmq];exact g1)) hm
 simp(disch:=try exact Zq)only[go_sem];refine Xc (fun hc=>?_) (fun hc=>?_)
 ·have hi:i<q.length:=Zo;have at1:=zcw q i hi;have hsu:=ztB m i (by rw[hmq];exact hi);rw[hmq]at hsu;have hnx:(wtsT m (i+1)).length≤500000:=Yw (ztC m (i+1) (by rw[hmq];exact hi)) hm;have ei:(i:Int)+1=((i+1:Nat):Int):=Zo;obtain⟨s,hs⟩:∃s,s=nthQ q i:=⟨_,rfl⟩;rw[←hs]at at1 hsu;simp(disch:=try exact Zq)only[go_sem,at1];refine⟨Zo,Xl (fun hf=>?_) (fun hf=>?_)⟩
  ·have hB:∃B,B=L++[s.f]:=⟨_,rfl⟩;obtain⟨B,hB⟩:=hB;have hall:wtsT m (i+1)=B++wtsA s.a:=by rw[hsu,←g2,wtsS,Ye hf,hB];simp
   have hBl:B.length+s.a.length≤500000:=by rw[hall,Yg,wtsA,Yan]at hnx;exact hnx
   simp(disch:=try exact Zq)only[go_sem,Ym]
   (repeat refine sdC ?_);refine AXs.loop mixed (hΓ) (hΔ) (ι:=Nat×List Str) (fun j=>[(29,.int .i64 j.1),(28,.int .i64 s.a.length),(27,.fs (arcs s.a) s.a.length),(5,.ptr 2 0),(14,.int .i64 i),(13,.int .i64 q.length),(12,.fs (stas q) q.length),(3,.sl 1 0 j.2.length 1 none),(1,.ptr 0 0)]) (fun j=>⟨[(2,.cells [.str s.f,.fs (arcs s.a) s.a.length]),(1,.cells (strs j.2)),(0,.cells [.int .i64 k,.int .i64 st,.str ld,.fs (stas q) q.length])],3⟩) (fun j=>j.1≤s.a.length∧j.2=B++wtsA (s.a.take j.1)) (fun j=>s.a.length-j.1) (0,B) Zk ⟨Yk _,by show B=B++[];simp⟩ (Xb [(1,4)] rfl rfl ?_ ?_) ?_
   ·simp only[go_sem,hB,za4,Yg,YQ]
   ·simp only[go_sem,hB,za4,Yg,YQ];exact zhf L s.f
   rintro⟨j,M⟩ ⟨p1,p2⟩;dsimp only at p1 p2;have hMl:M.length≤500000:=by rw[p2,Yg,wtsA,Yan,Y0];omega
   simp(disch:=try exact Zq)only[go_sem];refine Xc (fun hd=>?_) (fun hd=>?_)
   ·have hj:j<s.a.length:=Zo;have at2:=zcA s.a j hj;have ej:(j:Int)+1=((j+1:Nat):Int):=Zo;simp(disch:=try exact Zq)only[go_sem,at2,Ym,ej]
    (repeat refine sdC ?_);have hM2:M++[(nthA s.a j).w]=B++wtsA (s.a.take (j+1)):=by rw[p2,show s.a.take (j+1)=s.a.take j++[nthA s.a j]from arcR.take_nth s.a j hj,wtsA,wtsA,Yax,YH];rfl
    refine zi (j+1,M++[(nthA s.a j).w]) ⟨hj,hM2⟩ (by show s.a.length-(j+1)<s.a.length-j;omega) (Xb [(1,5)] rfl rfl ?_ ?_)
    ·simp only[go_sem,Yg,YQ]
    simp only[go_sem,za4];exact zhf _ _
   obtain rfl:j=s.a.length:=Zo;rw[Ym,←hall]at p2;simp(disch:=try exact Zq)only[go_sem];refine AXa.go mixed (hΓ) (hΔ) Zk ?_;simp(disch:=try exact Zq)only[go_sem,ei];refine zi (i+1,M) ⟨hi,p2⟩ (by show q.length-(i+1)<q.length-i;omega) (Xb [] rfl rfl ?_ ?_)
   ·simp only[go_sem]
   simp only[go_sem]
  have hB:∃B,B=L:=⟨_,rfl⟩;obtain⟨B,hB⟩:=hB;have hall:wtsT m (i+1)=B++wtsA s.a:=by rw[hsu,←g2,wtsS,Yi hf,hB];simp
  have hBl:B.length+s.a.length≤500000:=by rw[hall,Yg,wtsA,Yan]at hnx;exact hnx
  simp(disch:=try exact Zq)only[go_sem,Ym]
  (repeat refine sdC ?_);refine AXs.loop mixed (hΓ) (hΔ) (ι:=Nat×List Str) (fun j=>[(29,.int .i64 j.1),(28,.int .i64 s.a.length),(27,.fs (arcs s.a) s.a.length),(5,.ptr 2 0),(14,.int .i64 i),(13,.int .i64 q.length),(12,.fs (stas q) q.length),(3,.sl 1 0 j.2.length 1 none),(1,.ptr 0 0)]) (fun j=>⟨[(2,.cells [.str s.f,.fs (arcs s.a) s.a.length]),(1,.cells (strs j.2)),(0,.cells [.int .i64 k,.int .i64 st,.str ld,.fs (stas q) q.length])],3⟩) (fun j=>j.1≤s.a.length∧j.2=B++wtsA (s.a.take j.1)) (fun j=>s.a.length-j.1) (0,B) Zk ⟨Yk _,by show B=B++[];simp⟩ (Xb [] rfl rfl ?_ ?_) ?_
  ·simp only[go_sem,hB,za4,Yg,YQ]
  ·simp only[go_sem,hB,za4,Yg,YQ];skip
  rintro⟨j,M⟩ ⟨p1,p2⟩;dsimp only at p1 p2;have hMl:M.length≤500000:=by rw[p2,Yg,wtsA,Yan,Y0];omega
  simp(disch:=try exact Zq)only[go_sem];refine Xc (fun hd=>?_) (fun hd=>?_)
  ·have hj:j<s.a.length:=Zo;have at2:=zcA s.a j hj;have ej:(j:Int)+1=((j+1:Nat):Int):=Zo;simp(disch:=try exact Zq)only[go_sem,at2,Ym,ej]
   (repeat refine sdC ?_);have hM2:M++[(nthA s.a j).w]=B++wtsA (s.a.take (j+1)):=by rw[p2,show s.a.take (j+1)=s.a.take j++[nthA s.a j]from arcR.take_nth s.a j hj,wtsA,wtsA,Yax,YH];rfl
   refine zi (j+1,M++[(nthA s.a j).w]) ⟨hj,hM2⟩ (by show s.a.length-(j+1)<s.a.length-j;omega) (Xb [(1,5)] rfl rfl ?_ ?_)
   ·simp only[go_sem,Yg,YQ]
   simp only[go_sem,za4];exact zhf _ _
  obtain rfl:j=s.a.length:=Zo;rw[Ym,←hall]at p2;simp(disch:=try exact Zq)only[go_sem];refine AXa.go mixed (hΓ) (hΔ) Zk ?_;simp(disch:=try exact Zq)only[go_sem,ei];refine zi (i+1,M) ⟨hi,p2⟩ (by show q.length-(i+1)<q.length-i;omega) (Xb [] rfl rfl ?_ ?_)
  ·simp only[go_sem]
  simp only[go_sem]
 obtain rfl:i=q.length:=Zo;have hLM:L=wtsM m:=by rw[g2,←hmq,wtsT_all]
 have hsl:=zjs L;have hcl:=zet (srtS L);simp(disch:=try exact Zq)only[go_sem];refine AXa.go mixed (hΓ) (hΔ) Zk ?_;simp(disch:=try exact Zp)only[go_sem,srtR_eq,cmpR_eq];have hw:compact (srtS L)=wts m:=by rw[hLM];rfl
 rw[hw]at hcl ⊢;refine Xr (cs:=strs (wts m++zerS ((srtS L).length-(wts m).length))) rfl ?_ ?_ (zaP _)
 ·rw[zcm,Yg];omega
 rw[YW,Yas,zeL,List.take_left]
def cWts:ZV:=zL (fun m:Mach=>[zad m]) (fun m=>(wtsM m).length≤500000∧m.q.length≤500000) fun m=>.ret (.fs (strs (wts m)) (wts m).length)
def cWts_eq(m:Mach)(h:(wtsM m).length≤500000)(h2:m.q.length≤500000):cWts [zad m]=some (.ret (.fs (strs (wts m)) (wts m).length)):=zo (pat:=fun m:Mach=>[zad m]) (fun x y h=>zcK (by simpa using h)) m ⟨h,h2⟩
def cWts_ok:ZC cWts 22:=zn fun m h=>zqS m h.1 h.2
end Go.Proofs

namespace Go.Proofs
open Tryz Go.Ab Go.Pl Go.Cnt Go.RowKit
def zvo:∀ {i:Nat} {l l':Ens},mpS i l=mpS i l'→l=l'
 |_,[],[],_=>rfl
 |_,[],_::_,h=>by simp[mpS]at h
 |_,_::_,[],h=>by simp[mpS]at h
 |i,e::l,e'::l',h=>by simp only[mpS,Yt,Ybc,V.str.injEq,V.int.injEq,Yag]at h;rw[zvo h.2,YaC h.1.1 h.1.2]
def mpB_inj {l l':Ens}(h:some (mpB l)=some (mpB l')):l=l':=by simp only[mpB,Yx,Blk.mp.injEq]at h;exact zvo h.1
def zpO {x x':Lay}{k k':Nat}(h:layV x k=layV x' k'):x=x'∧k=k':=by obtain⟨a,b,c,d⟩:=x;obtain⟨a',b',c',d'⟩:=x';simp only[layV,V.agg.injEq,Yt,V.int.injEq,V.map.injEq,Yag,Yad]at h;obtain⟨h1,h2,h3,h4,h5⟩:=h;refine⟨?_,h5⟩;rw[show a=a' by omega,show b=b' by omega,show c=c' by omega,show d=d' by omega]
def zpm {s s':Sta}(h:staV s=staV s'):s=s':=by obtain⟨f,a⟩:=s;obtain⟨f',a'⟩:=s';simp only[staV,V.agg.injEq,Yt,V.str.injEq,V.fs.injEq,Yad]at h;rw[h.1,arcs_inj h.2.1]
def zlM {π:Nat→Nat}{N:Nat→Prop}(l:Ens):RnB π N (mpB l) (mpB l):=(zjA l).2 trivial
def zpl(s:Sta):Pure (staV s):=.agg fun x hx=>by
 simp only[Yy,YaM,YbZ]at hx;rcases hx with rfl|rfl
 ·exact .str _
 exact .fs (zhH _)
def lay_rn {π:Nat→Nat}{N:Nat→Prop}(x:Lay){a b:Nat}(ha:N a)(hb:π a=b):Rn π N (layV x a) (layV x b):=by
 subst hb;refine .agg rfl fun i u v hu hv=>?_;match i with
 |0=>cases hu;cases hv;exact .same (.int _ _)
 |1=>cases hu;cases hv;exact .same (.int _ _)
 |2=>cases hu;cases hv;exact .same (.int _ _)
 |3=>cases hu;cases hv;exact .same (.int _ _)
 |4=>cases hu;cases hv;exact .map ha
 |i+5=>simp at hu
def LayS(x:Lay):Prop:=x.nm≤1000000∧x.wt≤1000000∧x.st≤1000000∧x.ar≤1000000
def SizeR(args:ZA)(H:Hp)(r:AR):Prop:=∃x k s m,args=[layV x k,staV s]∧(∀b x,H.get b=some x→b<H.next)∧LayS x∧s.a.length≤1000000∧H.get k=some (mpB m)∧r=⟨True,.int .i64 (zb8 x s:Nat),H,[k],[]⟩
def sizeR_ok:∀args H r,SizeR args H r→HCall prog 23 args H r:=by
 rintro args H r ⟨x,k,s,m,rfl,hk,hx,hs,hm,rfl⟩;have hF:∀(i:Nat)(y:Blk),([mpB m]:List Blk)[i]? =some y→∀π N,RnB π N y y:=fun i y hy π N=>by
  match i with
  |0=>cases hy;exact zlM m
  |i+1=>simp at hy
 refine HCall.none (size_N x s m hx hs) (.int _ _) [k] _ H rfl Zs ⟨rfl,fun i u v hu hv=>?_⟩ (fun i y hy=>?_) hF hk
 ·match i with
  |0=>cases hu;cases hv;exact lay_rn x (π:=fun i=>[k].getD i 0) (YaA.2 rfl) rfl
  |1=>cases hu;cases hv;exact .same (zpl s)
  |i+2=>simp at hu
 match i with
 |0=>cases hy;exact⟨k,rfl,hm,zlM m⟩
 |i+1=>simp at hy
def size_eq(nm wt st ar k n:Nat)(f:Str)(a:List Arc)(m:Ens)(bs:ZH)(nx:Nat)(hm:zG bs k=some (mpB m))(hn:n=a.length)(h1:nm≤1000000)(h2:wt≤1000000)(h3:st≤1000000)(h4:ar≤1000000)(hs:a.length≤1000000)(hk:((keysB bs).all fun b=>decide (b<nx))=true):conD SizeR [.agg [.int .i64 (nm:Nat),.int .i64 (wt:Nat),.int .i64 (st:Nat),.int .i64 (ar:Nat),.map k],.agg [.str f,.fs (arcs a) n]] ⟨bs,nx⟩=some ⟨True,.int .i64 (zb8 ⟨nm,wt,st,ar⟩ ⟨f,a⟩:Nat),⟨bs,nx⟩,[k],[]⟩:=by
 subst hn;have hR:SizeR [layV ⟨nm,wt,st,ar⟩ k,staV ⟨f,a⟩] ⟨bs,nx⟩ ⟨True,.int .i64 (zb8 ⟨nm,wt,st,ar⟩ ⟨f,a⟩:Nat),⟨bs,nx⟩,[k],[]⟩:=
  ⟨_,k,_,m,rfl,zaZ hk,⟨h1,h2,h3,h4⟩,hs,(zC bs k).trans hm,rfl⟩
 refine zan hR ?_;rintro r' ⟨x',k',s',m',e,_,_,_,_,rfl⟩;simp only[Yt,Yad]at e;obtain⟨rfl,rfl⟩:=zpO (x:=⟨nm,wt,st,ar⟩) (k:=k) e.1;obtain rfl:=zpm (s:=⟨f,a⟩) e.2;rfl
def StaR(args:ZA)(H:Hp)(r:AR):Prop:=∃x k s m b c l la fr,args=[layV x k,.ptr b 0,staV s]∧(∀b x,H.get b=some x→b<H.next)∧LayOK x m∧s.a.length≤100000∧(∀a∈s.a,zkI a)∧okW (l,la,fr)∧l.length≤50000000∧
 H.get k=some (mpB m)∧H.get b=some (wB c l.length la fr)∧H.get c=some (bly l)∧
 r=⟨True,.tup [],((H.put b (wB H.next (numL (staP x m s) (l,la,fr)).1.length (numL (staP x m s) (l,la,fr)).2.1 (numL (staP x m s) (l,la,fr)).2.2)).kill c).new (bly (numL (staP x m s) (l,la,fr)).1),[b,c,k],[b,c]⟩
def idx3 {b c k:Nat}(h1:b≠c)(h2:b≠k)(h3:c≠k):List.idxOf c [b,c,k]=1∧List.idxOf k [b,c,k]=2:=by
 have e1:(b==c)=false:=by simpa using h1
 have e2:(b==k)=false:=by simpa using h2
 have e3:(c==k)=false:=by simpa using h3
 constructor
 ·rw[List.idxOf_cons,e1];simp
 rw[List.idxOf_cons,e2,cond_false,List.idxOf_cons,e3];simp
def staR_ok:∀args H r,StaR args H r→HCall prog 30 args H r:=by
 rintro args H r ⟨x,k,s,m,b,c,l,la,fr,rfl,hk,hx,hs,ha,hw,hl,hm,hb,hc,rfl⟩;have n1:b≠c:=by rintro rfl;rw[hb]at hc;cases hc
 have n2:b≠k:=by rintro rfl;rw[hb]at hm;cases hm
 have n3:c≠k:=by rintro rfl;rw[hc]at hm;cases hm
 obtain⟨i1,i2⟩:=idx3 n1 n2 n3;have tb:zu [b,c,k] H.next b=0:=by unfold zu;rw[Yi (hk b _ hb)];simp
 have tc:zu [b,c,k] H.next c=1:=by unfold zu;rw[Yi (hk c _ hc)];exact i1
 have tk:zu [b,c,k] H.next k=2:=by unfold zu;rw[Yi (hk k _ hm)];exact i2
 have tn:zu [b,c,k] H.next H.next=3:=by unfold zu;rw[Ye Zo];simp
 obtain⟨S,hS⟩:∃S,S=numL (staP x m s) (l,la,fr):=⟨_,rfl⟩;have hN:=state_N x s m l la fr hx hs ha hw hl;rw[←hS]at hN ⊢;refine HCall.of hN [b,c,k] _ (.tup []) H (((H.put b (wB H.next S.1.length S.2.1 S.2.2)).kill c).new (bly S.1)) rfl (by simp[n1,n2,n3]) ⟨rfl,fun i u v hu hv=>?_⟩ (fun i y hy=>?_) (.same (.tup Zs)) (by show H.next+1+3=H.next+4;omega) (fun b' x' hx'=>?_) (fun b' hb' hw'=>?_)
 ·match i with
  |0=>cases hu;cases hv;exact lay_rn x (π:=fun i=>[b,c,k].getD i 0) (a:=2) (YD _) rfl
  |1=>cases hu;cases hv;exact .ptr (π:=fun i=>[b,c,k].getD i 0) (b:=0) (Yaz _)
  |2=>cases hu;cases hv;exact .same (zpl s)
  |i+3=>simp at hu
 ·match i with
  |0=>cases hy;exact⟨b,_,rfl,hb,zqT (π:=fun i=>[b,c,k].getD i 0) (c:=1) (by show 1<3;omega)⟩
  |1=>cases hy;exact⟨c,_,rfl,hc,zbG l⟩
  |2=>cases hy;exact⟨k,_,rfl,hm,zlM m⟩
  |i+3=>simp at hy
 ·rw[Xe]at hx';split at hx'
  ·rename_i he;have he':b'=H.next:=he;subst he';cases hx';refine .inr ⟨.inr ⟨Yc _,YD _⟩,bly S.1,?_,zbG _⟩;rw[tn];rfl
  rw[Xh]at hx';split at hx'
  ·cases hx'
  rename_i hec;rw[Xd]at hx';split at hx'
  ·rename_i he;subst he;rw[hb]at hx';cases hx';refine .inr ⟨.inl Zs,wB 3 S.1.length S.2.1 S.2.2,?_,?_⟩
   ·rw[tb];rfl
   have:=zqT (π:=zu [b',c,k] H.next) (N:=fun b=>b∈[b',c,k]∨(H.next≤b∧b<H.next+1)) (c:=H.next) (n:=S.1.length) (a:=S.2.1) (b:=S.2.2) (.inr ⟨Yc _,YD _⟩);rwa [tn]at this
  rename_i he;by_cases hek:b'=k
  ·subst hek;rw[hm]at hx';cases hx';refine .inr ⟨.inl Zs,mpB m,?_,zlM m⟩;rw[tk];rfl
  exact .inl ⟨hk b' _ hx',by simp[he,hec,hek],hx'⟩
 have h1:b'≠H.next:=Zo;have h2:b'≠b∧b'≠c:=by simpa using hw'
 rw[Xe,Ye (show ¬b'=((H.put b _).kill c).next from h1),Xh,Ye h2.2,Xd,Ye h2.1]
def state_eq(nm wt st ar k n b c z la fr:Nat)(f:Str)(a:List Arc)(m:Ens)(l:ZL)(bs:ZH)(nx:Nat)(hm:zG bs k=some (mpB m))(hn:n=a.length) (hb:zG bs b=some (.cells [.sl c 0 z 1 none,.int .i64 0,.int .i8 0,.int .u8 (la:Nat),.int .i64 (fr:Nat)])) (hc:zG bs c=some (bly l)) (hz:z=l.length) (hx:LayOK ⟨nm,wt,st,ar⟩ m) (hs:a.length≤100000) (ha:∀x∈a,zkI x) (hw:okW (l,la,fr)) (hl:l.length≤50000000) (hk:((keysB bs).all fun b=>decide (b<nx))=true):conD StaR [.agg [.int .i64 (nm:Nat),.int .i64 (wt:Nat),.int .i64 (st:Nat),.int .i64 (ar:Nat),.map k],.ptr b 0,.agg [.str f,.fs (arcs a) n]] ⟨bs,nx⟩=some ⟨True,.tup [],(((⟨bs,nx⟩:Hp).put b (.cells [.sl nx 0 (numL (staP ⟨nm,wt,st,ar⟩ m ⟨f,a⟩) (l,la,fr)).1.length 1 none,.int .i64 0,.int .i8 0,.int .u8 ((numL (staP ⟨nm,wt,st,ar⟩ m ⟨f,a⟩) (l,la,fr)).2.1:Nat),.int .i64 ((numL (staP ⟨nm,wt,st,ar⟩ m ⟨f,a⟩) (l,la,fr)).2.2:Nat)])).kill c).new (bly (numL (staP ⟨nm,wt,st,ar⟩ m ⟨f,a⟩) (l,la,fr)).1),[b,c,k],[b,c]⟩:=by
 subst hn hz;have hR:StaR [layV ⟨nm,wt,st,ar⟩ k,.ptr b 0,staV ⟨f,a⟩] ⟨bs,nx⟩ _:=
  ⟨_,k,_,m,b,c,l,la,fr,rfl,zaZ hk,hx,hs,ha,hw,hl,(zC bs k).trans hm,(zC bs b).trans hb,(zC bs c).trans hc,rfl⟩
 refine zan hR ?_;rintro r' ⟨x',k',s',m',b',c',l',la',fr',e,_,_,_,_,_,_,hm',hb',hc',rfl⟩;simp only[Yt,V.ptr.injEq,Yad]at e;obtain⟨rfl,rfl⟩:=zpO (x:=⟨nm,wt,st,ar⟩) (k:=k) e.1;obtain rfl:=e.2.1;obtain rfl:=zpm (s:=⟨f,a⟩) e.2.2;rw[show (⟨bs,nx⟩:Hp).get k=some (mpB m)from(zC bs k).trans hm]at hm';obtain rfl:=mpB_inj hm';rw[show (⟨bs,nx⟩:Hp).get b=some (wB c l.length la fr)from(zC bs b).trans hb]at hb';obtain⟨rfl,_,e3,e4⟩:=zo6 hb';obtain rfl:la=la':=Zo;obtain rfl:fr=fr':=Zo;rw[show (⟨bs,nx⟩:Hp).get c=some (bly l)from(zC bs c).trans hc]at hc';obtain rfl:=zdV hc';rfl
def zio(l:ZL)(la fr:Int):ZA→Option Wst:=fun rest=>
 open Classical in if h:∃q:List Str,rest=[.fs (strs q) q.length]∧l.length+20*q.length+sumL q≤80000000∧∀s∈q,s.length≤1000000 then some (l++zbc [] (Classical.choose h),la,fr)else none
def zt4 {l:ZL}{la fr:Int}{q:List Str}(h1:l.length+20*q.length+sumL q≤80000000)(h2:∀s∈q,s.length≤1000000):zio l la fr [.fs (strs q) q.length]=some (l++zbc [] q,la,fr):=by have hx:∃q':List Str,([.fs (strs q) q.length]:ZA)=[.fs (strs q') q'.length]∧l.length+20*q'.length+sumL q'≤80000000∧∀s∈q',s.length≤1000000:=⟨q,rfl,h1,h2⟩;unfold zio;rw[dif_pos hx];have hc:=(YaG hx).1;have:strs q=strs (Classical.choose hx):=(V.fs.inj (List.cons.inj hc).1).1;rw[←zbv this]
def fold_ok:∀args H r,WrR zio (.tup []) args H r→HCall prog 27 args H r:=by
 refine zkW (.tup Zs) fun l la fr rest l' la' fr' h0 hs=>?_;unfold zio at hs;split at hs
 ·rename_i h;obtain⟨q,hq⟩:∃q,q=Classical.choose h:=⟨_,rfl⟩;have hsp:=YaG h;rw[←hq]at hsp hs;obtain⟨e,h1,h2⟩:=hsp;clear hq h;subst e;cases hs;exact⟨fun x hx=>by rw[YB.1 hx];exact .fs (zaP _),fold_N l la fr _ h0 h1 h2⟩
 cases hs
def zpo(l:ZL)(la fr:Int):ZA→Option Wst
 |[]=>if 0≤la∧0≤fr∧okW (l,la.toNat,fr.toNat)∧l.length≤90000000 then some ((zca (l,la.toNat,fr.toNat)).1,((zca (l,la.toNat,fr.toNat)).2.1:Int),((zca (l,la.toNat,fr.toNat)).2.2:Int))else none
 |_=>none
def fill_ok:∀args H r,WrR zpo (.tup []) args H r→HCall prog 31 args H r:=by
 refine zkW (.tup Zs) fun l la fr rest l' la' fr' h0 hs=>?_;unfold zpo at hs;split at hs
 ·split at hs
  ·rename_i hx;obtain⟨a1,a2,a3,a4⟩:=hx;cases hs;refine⟨Zs,?_⟩;have:=fill_N l la.toNat fr.toNat a3 a4;rw[Int.toNat_of_nonneg a1,Int.toNat_of_nonneg a2]at this;exact this
  cases hs
 cases hs
attribute [local go_sem] zbg
def bytes_N(l:ZL)(la fr:Int)(h0:l≠[]):NCall prog 34 [.ptr 0 0] [wB 1 l.length la fr,bly l] [] (.sl 1 0 l.length 1 none) ⟨[(0,wB 1 l.length la fr),(1,bly l)],2⟩:=by
 unfold wB;refine NCall.walk (rs:=[.tmp 2]) [0,2] [] 2 mixed (zh) (zg) call34 func34 rfl ntmps34 rfl Zk Zs Zs Zs ?_;simp(disch:=try exact Zq)only[go_sem];refine⟨Zo,AXk.intro Zk ?_⟩;simp(disch:=try exact Zq)only[go_sem];refine⟨[(2,.sl 1 0 l.length 1 none)],Sub.of [] rfl Zg Zg Zd (fun b hb hw=>?_),rfl⟩;match b,hb with
 |0,_=>rfl
 |1,_=>rfl
def BytR(args:ZA)(H:Hp)(r:AR):Prop:=∃b c l la fr,args=[.ptr b 0]∧(∀b x,H.get b=some x→b<H.next)∧l≠[]∧H.get b=some (wB c l.length la fr)∧H.get c=some (bly l)∧r=⟨True,.sl c 0 l.length 1 none,H,[b,c],[]⟩
def bytR_ok:∀args H r,BytR args H r→HCall prog 34 args H r:=by
 rintro args H r ⟨b,c,l,la,fr,rfl,hk,h0,hb,hc,rfl⟩;have hne:b≠c:=by rintro rfl;rw[hb]at hc;cases hc
 have tb:zu [b,c] H.next b=0:=by unfold zu;rw[Yi (hk b _ hb)];simp
 have tc:zu [b,c] H.next c=1:=by unfold zu;rw[Yi (hk c _ hc)];exact idx1 hne
 refine HCall.of (bytes_N l la fr h0) [b,c] _ (.sl c 0 l.length 1 none) H H rfl (by simpa using hne) (zbQ (Yaz _) rfl Zs) (fun i x hx=>?_) ?_ rfl (fun b' x' hx'=>?_) (fun b' hb' hw=>rfl)
 ·match i with
  |0=>cases hx;exact⟨b,_,rfl,hb,zqT (π:=fun i=>[b,c].getD i 0) (c:=1) (YD _)⟩
  |1=>cases hx;exact⟨c,_,rfl,hc,zbG l⟩
  |i+2=>simp at hx
 ·have:=Rn.sl (π:=zu [b,c] H.next) (N:=fun b'=>b'∈[b,c]∨(H.next≤b'∧b'<H.next)) (b:=c) (off:=0) (len:=l.length) (sz:=1) (kc:=none) (kc':=none) (.inl Zs) (.inl rfl);rwa [tc]at this
 by_cases h1:b'=b
 ·subst h1;rw[hb]at hx';cases hx';refine .inr ⟨.inl Zs,wB 1 l.length la fr,?_,?_⟩
  ·rw[tb];rfl
  have:=zqT (π:=zu [b',c] H.next) (N:=fun b=>b∈[b',c]∨(H.next≤b∧b<H.next)) (c:=c) (n:=l.length) (a:=la) (b:=fr) (.inl Zs);rwa [tc]at this
 by_cases h2:b'=c
 ·subst h2;rw[hc]at hx';cases hx';refine .inr ⟨.inl Zs,bly l,?_,zbG l⟩;rw[tc];rfl
 exact .inl ⟨hk b' _ hx',by simp[h1,h2],hx'⟩
def bytes_eq(b c n:Nat)(l:ZL)(la fr:Int)(bs:ZH)(nx:Nat)(hb:zG bs b=some (.cells [.sl c 0 n 1 none,.int .i64 0,.int .i8 0,.int .u8 la,.int .i64 fr]))(hc:zG bs c=some (bly l))(hn:n=l.length)(h0:l≠[])(hk:((keysB bs).all fun b=>decide (b<nx))=true):conD BytR [.ptr b 0] ⟨bs,nx⟩=some ⟨True,.sl c 0 l.length 1 none,⟨bs,nx⟩,[b,c],[]⟩:=by
 subst hn;have hR:BytR [.ptr b 0] ⟨bs,nx⟩ ⟨True,.sl c 0 l.length 1 none,⟨bs,nx⟩,[b,c],[]⟩:=⟨b,c,l,la,fr,rfl,zaZ hk,h0,(zC bs b).trans hb,(zC bs c).trans hc,rfl⟩;refine zan hR ?_;rintro r' ⟨b',c',l',la',fr',e,_,_,hb',hc',rfl⟩;obtain rfl:b=b':=by simpa using e
 rw[show (⟨bs,nx⟩:Hp).get b=some (wB c l.length la fr)from(zC bs b).trans hb]at hb';obtain⟨rfl,_,_,_⟩:=zo6 hb';rw[show (⟨bs,nx⟩:Hp).get c=some (bly l)from(zC bs c).trans hc]at hc';rw[zdV hc']
def zks {π:Nat→Nat}{N:Nat→Prop}(l:ZL):RnB π N (.cells (l.map zq)) (.cells (l.map zq)):=.cells (zB (zaj l))
def SumR(args:ZA)(H:Hp)(r:AR):Prop:=∃c l,args=[.sl c 0 l.length 1 none]∧(∀b x,H.get b=some x→b<H.next)∧l.length≤100000000∧H.get c=some (bly l)∧r=⟨True,.sl H.next 0 4 1 (some 4),H.new (.cells ((sumB l).map zq)),[c],[]⟩
def sumR_ok:∀args H r,SumR args H r→HCall prog 33 args H r:=by
 rintro args H r ⟨c,l,rfl,hk,hl,hc,rfl⟩;have tc:zu [c] H.next c=0:=by unfold zu;rw[Yi (hk c _ hc)];simp
 have tn:zu [c] H.next H.next=1:=by unfold zu;rw[Ye Zo];simp
 refine HCall.of (zsM l hl) [c] _ (.sl H.next 0 4 1 (some 4)) H (H.new _) rfl Zs ⟨rfl,fun i u v hu hv=>?_⟩ (fun i x hx=>?_) ?_ (by show H.next+1+1=H.next+2;omega) (fun b' x' hx'=>?_) (fun b' hb' hw=>?_)
 ·match i with
  |0=>cases hu;cases hv;exact .sl (π:=fun i=>[c].getD i 0) (b:=0) (YaA.2 rfl) (.inl rfl)
  |i+1=>simp at hu
 ·match i with
  |0=>cases hx;exact⟨c,_,rfl,hc,zbG l⟩
  |i+1=>simp at hx
 ·have:=Rn.sl (π:=zu [c] H.next) (N:=fun b'=>b'∈[c]∨(H.next≤b'∧b'<(H.new (.cells ((sumB l).map zq))).next)) (b:=H.next) (off:=0) (len:=4) (sz:=1) (kc:=some 4) (kc':=some 4) (.inr ⟨Yc _,YD _⟩) (.inr rfl);rwa [tn]at this
 ·rw[Xe]at hx';split at hx'
  ·rename_i he;subst he;cases hx';refine .inr ⟨.inr ⟨Yc _,YD _⟩,.cells ((sumB l).map zq),?_,zks _⟩;rw[tn];rfl
  by_cases h2:b'=c
  ·subst h2;rw[hc]at hx';cases hx';refine .inr ⟨.inl Zs,bly l,?_,zbG l⟩;rw[tc];rfl
  exact .inl ⟨hk b' _ hx',by simp[h2],hx'⟩
 rw[Xe,Ye Zo]
def sum_eq(c n:Nat)(l:ZL)(bs:ZH)(nx:Nat)(hc:zG bs c=some (bly l))(hn:n=l.length)(hl:l.length≤100000000)(hk:((keysB bs).all fun b=>decide (b<nx))=true):conD SumR [.sl c 0 n 1 none] ⟨bs,nx⟩=some ⟨True,.sl nx 0 4 1 (some 4),⟨(nx,.cells ((sumB l).map zq))::bs,nx+1⟩,[c],[]⟩:=by subst hn;have hR:SumR [.sl c 0 l.length 1 none] ⟨bs,nx⟩ ⟨True,.sl nx 0 4 1 (some 4),⟨(nx,.cells ((sumB l).map zq))::bs,nx+1⟩,[c],[]⟩:=⟨c,l,rfl,zaZ hk,hl,(zC bs c).trans hc,rfl⟩;refine zan hR ?_;rintro r' ⟨c',l',e,_,_,hc',rfl⟩;simp only[Yt,V.sl.injEq,Yad,Yag]at e;obtain⟨rfl,_⟩:=e;rw[show (⟨bs,nx⟩:Hp).get c=some (bly l)from(zC bs c).trans hc]at hc';rw[zdV hc'];rfl
def WrtR(args:ZA)(H:Hp)(r:AR):Prop:=∃b c d l s la fr,args=[.ptr b 0,.sl d 0 4 1 (some 4)]∧(∀b x,H.get b=some x→b<H.next)∧l≠[]∧l.length≤100000000∧s.length=4∧H.get b=some (wB c l.length la fr)∧H.get c=some (bly l)∧H.get d=some (.cells (s.map zq))∧b≠d∧
 r=⟨True,.tup [.int .i64 4,.nilI],((H.put b (wB H.next (l++s).length la fr)).kill c).new (bly (l++s)),[b,c,d],[b,c]⟩
def wrtR_ok:∀args H r,WrtR args H r→HCall prog 32 args H r:=by
 rintro args H r ⟨b,c,d,l,s,la,fr,rfl,hk,h0,hl,hs,hb,hc,hd,hbd,rfl⟩;have hcd:c≠d:=by rintro rfl;rw[hc]at hd;cases hd
 have h:=write_H (k:=4) (kc:=some 4) (rest:=[]) s h0 hl (fun e=>by rw[e]at hs;simp at hs) Zo hb hc (by rw[Yab];exact hd) hbd hcd hs.symm;rw[hs]at h;exact h
def wrt_eq(b c d n:Nat)(l s:ZL)(la fr:Int)(bs:ZH)(nx:Nat)(hb:zG bs b=some (.cells [.sl c 0 n 1 none,.int .i64 0,.int .i8 0,.int .u8 la,.int .i64 fr]))(hc:zG bs c=some (bly l))(hd:zG bs d=some (.cells (s.map zq)))(hn:n=l.length)(h0:l≠[])(hl:l.length≤100000000)(hs:s.length=4)(hbd:(b==d)=false)(hk:((keysB bs).all fun b=>decide (b<nx))=true):conD WrtR [.ptr b 0,.sl d 0 4 1 (some 4)] ⟨bs,nx⟩=some ⟨True,.tup [.int .i64 4,.nilI],(((⟨bs,nx⟩:Hp).put b (.cells [.sl nx 0 (l++s).length 1 none,.int .i64 0,.int .i8 0,.int .u8 la,.int .i64 fr])).kill c).new (bly (l++s)),[b,c,d],[b,c]⟩:=by
 subst hn;have hR:WrtR [.ptr b 0,.sl d 0 4 1 (some 4)] ⟨bs,nx⟩ ⟨True,.tup [.int .i64 4,.nilI],(((⟨bs,nx⟩:Hp).put b (wB nx (l++s).length la fr)).kill c).new (bly (l++s)),[b,c,d],[b,c]⟩:=
  ⟨b,c,d,l,s,la,fr,rfl,zaZ hk,h0,hl,hs,(zC bs b).trans hb,(zC bs c).trans hc,(zC bs d).trans hd,by simpa using hbd,rfl⟩
 refine zan hR ?_;rintro r' ⟨b',c',d',l',s',la',fr',e,_,_,_,_,hb',hc',hd',_,rfl⟩;simp only[Yt,V.ptr.injEq,V.sl.injEq,Yad,Yag]at e;obtain⟨rfl,rfl⟩:=e;rw[show (⟨bs,nx⟩:Hp).get b=some (wB c l.length la fr)from(zC bs b).trans hb]at hb';obtain⟨rfl,_,rfl,rfl⟩:=zo6 hb';rw[show (⟨bs,nx⟩:Hp).get c=some (bly l)from(zC bs c).trans hc]at hc';obtain rfl:=zdV hc';rw[show (⟨bs,nx⟩:Hp).get d=some (.cells (s.map zq))from(zC bs d).trans hd]at hd';have:s.map zq=s'.map zq:=by simpa using hd'
 rw[zdT this];rfl
def Wst0(args:ZA)(H:Hp)(r:AR):Prop:=∃b s la fr,args=[.ptr b 0,.str s]∧s≠[]∧s.length≤64∧H.get b=some (wr0 [.int .u8 la,.int .i64 fr])∧r=⟨True,.tup [.int .i64 s.length,.nilI],(H.put b (wB H.next s.length la fr)).new (bly s),[b],[b]⟩
def wst0_ok:∀args H r,Wst0 args H r→HCall prog 24 args H r:=by rintro args H r ⟨b,s,la,fr,rfl,h0,hl,hb,rfl⟩;exact wfirst_H s h0 hl hb
def WsA(args:ZA)(H:Hp)(r:AR):Prop:=Wst0 args H r∨WsB args H r
def wsA_ok:∀args H r,WsA args H r→HCall prog 24 args H r:=fun args H r h=>h.elim (wst0_ok args H r) (ztD args H r)
def ws0_eq(b:Nat)(s:ZL)(la fr:Int)(bs:ZH)(nx:Nat)(hb:zG bs b=some (.cells [.nilS,.int .i64 0,.int .i8 0,.int .u8 la,.int .i64 fr]))(h0:s≠[])(hl:s.length≤64):conD WsA [.ptr b 0,.str s] ⟨bs,nx⟩=some ⟨True,.tup [.int .i64 s.length,.nilI],((⟨bs,nx⟩:Hp).put b (.cells [.sl nx 0 s.length 1 none,.int .i64 0,.int .i8 0,.int .u8 la,.int .i64 fr])).new (bly s),[b],[b]⟩:=by
 have hg:(⟨bs,nx⟩:Hp).get b=some (wr0 [.int .u8 la,.int .i64 fr]):=(zC bs b).trans hb;have hR:WsA [.ptr b 0,.str s] ⟨bs,nx⟩ ⟨True,.tup [.int .i64 s.length,.nilI],((⟨bs,nx⟩:Hp).put b (wB nx s.length la fr)).new (bly s),[b],[b]⟩:=.inl ⟨b,s,la,fr,rfl,h0,hl,hg,rfl⟩;refine zan hR ?_;rintro r' (⟨b',s',la',fr',e,_,_,hb',rfl⟩|⟨b',s',e,b2,c,l,la',fr',rest,l',la2,fr2,e2,_,_,hb',_⟩)
 ·simp only[Yt,V.ptr.injEq,V.str.injEq,Yad]at e;obtain⟨rfl,rfl⟩:=e;rw[hg]at hb';simp only[wr0,Yx,Blk.cells.injEq,Yt,V.int.injEq,Yag,Yad]at hb';obtain⟨rfl,rfl⟩:=hb';rfl
 rw[e]at e2;simp only[Yt,V.ptr.injEq,Yad]at e e2;obtain⟨rfl,_⟩:=e2;obtain⟨rfl,_⟩:=e;rw[hg]at hb';simp[wr0,wB]at hb'
def Δp:FuncId→ZA→Hp→Option AR:=
 zaQ 23 (conD SizeR) (zaQ 30 (conD StaR) (zaQ 24 (conD WsA) (zaQ 25 (conD (WrR zld .nilI)) (zaQ 26 (conD (WrR zt3 (.tup [])))
  (zaQ 27 (conD (WrR zio (.tup []))) (zaQ 28 (conD (WrR zq9 (.tup []))) (zaQ 31 (conD (WrR zpo (.tup []))) (zaQ 34 (conD BytR) (zaQ 33 (conD SumR) (zaQ 32 (conD WrtR) noΔ))))))))))
def Δp_ok:zay prog Δp:=zK (zT sizeR_ok) (zK (zT staR_ok) (zK (zT wsA_ok) (zK (zT zo5) (zK (zT zkY) (zK (zT fold_ok) (zK (zT num_ok) (zK (zT Go.Proofs.fill_ok) (zK (zT bytR_ok) (zK (zT sumR_ok) (zK (zT wrtR_ok) zg))))))))))
def zoY(nm wt st ar k n:Nat)(f:Str)(a:List Arc)(m:Ens)(bs:ZH)(nx:Nat)(hm:zG bs k=some (mpB m))(hn:n=a.length)(h1:nm≤1000000)(h2:wt≤1000000)(h3:st≤1000000)(h4:ar≤1000000)(hs:a.length≤1000000)(hk:((keysB bs).all fun b=>decide (b<nx))=true):Δp 23 [.agg [.int .i64 (nm:Nat),.int .i64 (wt:Nat),.int .i64 (st:Nat),.int .i64 (ar:Nat),.map k],.agg [.str f,.fs (arcs a) n]] ⟨bs,nx⟩=some ⟨True,.int .i64 (zb8 ⟨nm,wt,st,ar⟩ ⟨f,a⟩:Nat),⟨bs,nx⟩,[k],[]⟩:=size_eq nm wt st ar k n f a m bs nx hm hn h1 h2 h3 h4 hs hk
def ztp(nm wt st ar k n b c z la fr:Nat)(f:Str)(a:List Arc)(m:Ens)(l:ZL)(bs:ZH)(nx:Nat)(hm:zG bs k=some (mpB m))(hn:n=a.length) (hb:zG bs b=some (.cells [.sl c 0 z 1 none,.int .i64 0,.int .i8 0,.int .u8 (la:Nat),.int .i64 (fr:Nat)])) (hc:zG bs c=some (bly l)) (hz:z=l.length) (hx:LayOK ⟨nm,wt,st,ar⟩ m) (hs:a.length≤100000) (ha:∀x∈a,zkI x) (hw:okW (l,la,fr)) (hl:l.length≤50000000) (hk:((keysB bs).all fun b=>decide (b<nx))=true):Δp 30 [.agg [.int .i64 (nm:Nat),.int .i64 (wt:Nat),.int .i64 (st:Nat),.int .i64 (ar:Nat),.map k],.ptr b 0,.agg [.str f,.fs (arcs a) n]] ⟨bs,nx⟩=some ⟨True,.tup [],(((⟨bs,nx⟩:Hp).put b (.cells [.sl nx 0 (numL (staP ⟨nm,wt,st,ar⟩ m ⟨f,a⟩) (l,la,fr)).1.length 1 none,.int .i64 0,.int .i8 0,.int .u8 ((numL (staP ⟨nm,wt,st,ar⟩ m ⟨f,a⟩) (l,la,fr)).2.1:Nat),.int .i64 ((numL (staP ⟨nm,wt,st,ar⟩ m ⟨f,a⟩) (l,la,fr)).2.2:Nat)])).kill c).new (bly (numL (staP ⟨nm,wt,st,ar⟩ m ⟨f,a⟩) (l,la,fr)).1),[b,c,k],[b,c]⟩:=state_eq nm wt st ar k n b c z la fr f a m l bs nx hm hn hb hc hz hx hs ha hw hl hk
def Δp_str0(b:Nat)(s:ZL)(la fr:Int)(bs:ZH)(nx:Nat)(hb:zG bs b=some (.cells [.nilS,.int .i64 0,.int .i8 0,.int .u8 la,.int .i64 fr]))(h0:s≠[])(hl:s.length≤64):Δp 24 [.ptr b 0,.str s] ⟨bs,nx⟩=some ⟨True,.tup [.int .i64 s.length,.nilI],((⟨bs,nx⟩:Hp).put b (.cells [.sl nx 0 s.length 1 none,.int .i64 0,.int .i8 0,.int .u8 la,.int .i64 fr])).new (bly s),[b],[b]⟩:=ws0_eq b s la fr bs nx hb h0 hl
def Δp_byte(b c n:Nat)(l:ZL)(la fr x:Int)(bs:ZH)(nx:Nat)(hb:zG bs b=some (.cells [.sl c 0 n 1 none,.int .i64 0,.int .i8 0,.int .u8 la,.int .i64 fr]))(hc:zG bs c=some (bly l))(hn:n=l.length)(h0:l≠[])(hl:l.length≤100000000)(hx:0≤x∧x<256)(hk:((keysB bs).all fun b=>decide (b<nx))=true):Δp 25 [.ptr b 0,.int .u8 x] ⟨bs,nx⟩=some ⟨True,.nilI,(((⟨bs,nx⟩:Hp).put b (.cells [.sl nx 0 (l++[UInt8.ofNat x.toNat]).length 1 none,.int .i64 0,.int .i8 0,.int .u8 la,.int .i64 fr])).kill c).new (bly (l++[UInt8.ofNat x.toNat])),[b,c],[b,c]⟩:=zbU b c n l la fr x bs nx hb hc hn h0 hl hx hk
def zto(b c k:Nat)(l:ZL)(la fr:Int)(n:Nat)(bs:ZH)(nx:Nat)(hb:zG bs b=some (.cells [.sl c 0 k 1 none,.int .i64 0,.int .i8 0,.int .u8 la,.int .i64 fr]))(hc:zG bs c=some (bly l))(hk':k=l.length)(h:l≠[])(hl:l.length≤90000000)(hn:n<128^6)(hk:((keysB bs).all fun b=>decide (b<nx))=true):Δp 26 [.ptr b 0,.int .i64 n] ⟨bs,nx⟩=some ⟨True,.tup [],(((⟨bs,nx⟩:Hp).put b (.cells [.sl nx 0 (l++varF 5 n).length 1 none,.int .i64 0,.int .i8 0,.int .u8 la,.int .i64 fr])).kill c).new (bly (l++varF 5 n)),[b,c],[b,c]⟩:=zi3 b c k l la fr n bs nx hb hc hk' h hl hn hk
def Δp_num(b c k:Nat)(l:ZL)(la fr:Nat)(n z:Int)(bs:ZH)(nx:Nat)(hb:zG bs b=some (.cells [.sl c 0 k 1 none,.int .i64 0,.int .i8 0,.int .u8 (la:Nat),.int .i64 (fr:Nat)]))(hc:zG bs c=some (bly l))(hk':k=l.length)(h:okW (l,la,fr))(hl:l.length≤90000000)(hn:0≤n∧n<1000000000)(hz:0≤z∧z≤60)(hk:((keysB bs).all fun b=>decide (b<nx))=true):Δp 28 [.ptr b 0,.int .i64 n,.int .i64 z] ⟨bs,nx⟩=some ⟨True,.tup [],(((⟨bs,nx⟩:Hp).put b (.cells [.sl nx 0 (numW z.toNat n.toNat (l,la,fr)).1.length 1 none,.int .i64 0,.int .i8 0,.int .u8 ((numW z.toNat n.toNat (l,la,fr)).2.1:Nat),.int .i64 ((numW z.toNat n.toNat (l,la,fr)).2.2:Nat)])).kill c).new (bly (numW z.toNat n.toNat (l,la,fr)).1),[b,c],[b,c]⟩:=zab b c k l la fr n z bs nx hb hc hk' h hl hn hz hk
def Δp_fold(b c k n:Nat)(l:ZL)(la fr:Int)(q:List Str)(bs:ZH)(nx:Nat)(hb:zG bs b=some (.cells [.sl c 0 k 1 none,.int .i64 0,.int .i8 0,.int .u8 la,.int .i64 fr]))(hc:zG bs c=some (bly l))(hk':k=l.length)(hn:n=q.length)(h:l≠[])(h1:l.length+20*q.length+sumL q≤80000000)(h2:∀s∈q,s.length≤1000000)(hk:((keysB bs).all fun b=>decide (b<nx))=true):Δp 27 [.ptr b 0,.fs (strs q) n] ⟨bs,nx⟩=some ⟨True,.tup [],(((⟨bs,nx⟩:Hp).put b (.cells [.sl nx 0 (l++zbc [] q).length 1 none,.int .i64 0,.int .i8 0,.int .u8 la,.int .i64 fr])).kill c).new (bly (l++zbc [] q)),[b,c],[b,c]⟩:=by subst hn;exact zqQ (st:=zio) (s':=(l++zbc [] q,la,fr)) hb hc hk' h (zt4 h1 h2) hk
def zoZ(b c k:Nat)(l:ZL)(la fr:Nat)(bs:ZH)(nx:Nat)(hb:zG bs b=some (.cells [.sl c 0 k 1 none,.int .i64 0,.int .i8 0,.int .u8 (la:Nat),.int .i64 (fr:Nat)]))(hc:zG bs c=some (bly l))(hk':k=l.length)(h:okW (l,la,fr))(hl:l.length≤90000000)(hk:((keysB bs).all fun b=>decide (b<nx))=true):Δp 31 [.ptr b 0] ⟨bs,nx⟩=some ⟨True,.tup [],(((⟨bs,nx⟩:Hp).put b (.cells [.sl nx 0 (zca (l,la,fr)).1.length 1 none,.int .i64 0,.int .i8 0,.int .u8 ((zca (l,la,fr)).2.1:Nat),.int .i64 ((zca (l,la,fr)).2.2:Nat)])).kill c).new (bly (zca (l,la,fr)).1),[b,c],[b,c]⟩:=
 zqQ (st:=zpo) (s':=((zca (l,la,fr)).1,((zca (l,la,fr)).2.1:Int),((zca (l,la,fr)).2.2:Int))) hb hc hk' h.2.2.2 (Yi ⟨Int.natCast_nonneg _,Int.natCast_nonneg _,h,hl⟩) hk
def zgh(b c n:Nat)(l:ZL)(la fr:Int)(bs:ZH)(nx:Nat)(hb:zG bs b=some (.cells [.sl c 0 n 1 none,.int .i64 0,.int .i8 0,.int .u8 la,.int .i64 fr]))(hc:zG bs c=some (bly l))(hn:n=l.length)(h0:l≠[])(hk:((keysB bs).all fun b=>decide (b<nx))=true):Δp 34 [.ptr b 0] ⟨bs,nx⟩=some ⟨True,.sl c 0 l.length 1 none,⟨bs,nx⟩,[b,c],[]⟩:=bytes_eq b c n l la fr bs nx hb hc hn h0 hk
def Δp_sum(c n:Nat)(l:ZL)(bs:ZH)(nx:Nat)(hc:zG bs c=some (bly l))(hn:n=l.length)(hl:l.length≤100000000)(hk:((keysB bs).all fun b=>decide (b<nx))=true):Δp 33 [.sl c 0 n 1 none] ⟨bs,nx⟩=some ⟨True,.sl nx 0 4 1 (some 4),⟨(nx,.cells ((sumB l).map zq))::bs,nx+1⟩,[c],[]⟩:=sum_eq c n l bs nx hc hn hl hk
def Δp_wrt(b c d n:Nat)(l s:ZL)(la fr:Int)(bs:ZH)(nx:Nat)(hb:zG bs b=some (.cells [.sl c 0 n 1 none,.int .i64 0,.int .i8 0,.int .u8 la,.int .i64 fr]))(hc:zG bs c=some (bly l))(hd:zG bs d=some (.cells (s.map zq)))(hn:n=l.length)(h0:l≠[])(hl:l.length≤100000000)(hs:s.length=4)(hbd:(b==d)=false)(hk:((keysB bs).all fun b=>decide (b<nx))=true):Δp 32 [.ptr b 0,.sl d 0 4 1 (some 4)] ⟨bs,nx⟩=some ⟨True,.tup [.int .i64 4,.nilI],(((⟨bs,nx⟩:Hp).put b (.cells [.sl nx 0 (l++s).length 1 none,.int .i64 0,.int .i8 0,.int .u8 la,.int .i64 fr])).kill c).new (bly (l++s)),[b,c,d],[b,c]⟩:=wrt_eq b c d n l s la fr bs nx hb hc hd hn h0 hl hs hbd hk
end Go.Proofs
