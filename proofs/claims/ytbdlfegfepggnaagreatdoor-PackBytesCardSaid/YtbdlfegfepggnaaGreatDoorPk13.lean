/- Pack: the whole. -/
import Derived.Test.YtbdlfegfepggnaaGreatDoorPk10
set_option linter.all false
set_option maxHeartbeats 16000000
set_option maxRecDepth 100000
noncomputable section
namespace Go.Proofs
open Tryz Go.Ab Go.Pl Go.Cnt
attribute [local go_sem] zbJ zkF zaW zaj zxY zxZ
def wnum(l:List Str)(i:Nat):Ens:=((l.take i).zipIdx).foldl (fun m p=>stoS m p.1 (p.2:Nat)) []
def zhg(l:List Str)(i:Nat)(h:i<l.length):wnum l (i+1)=stoS (wnum l i) (l.getD i []) ((i:Nat):Int):=by
 unfold wnum;rw[YaG,Yb h,List.zipIdx_append,List.foldl_append];have:(l.take i).length=i:=by simp;omega
 rw[this];simp[h]
def zfo(l:List Str)(a:Str):∀i,i≤l.length→0≤valS (wnum l i) a∧(valS (wnum l i) a=0∨valS (wnum l i) a<i)
 |0,_=>⟨Yb1 _,.inl rfl⟩
 |i+1,h=>by
  obtain⟨h1,h2⟩:=zfo l a i Zo;rw[zhg l i Zo,zkc];split
  ·exact⟨Zo,.inr Zo⟩
  exact⟨h1,h2.imp id Zo⟩
def arcX(q:List Sta):Nat:=q.foldl (fun n s=>max n s.a.length) 0
def ziB(q:List Sta)(i:Nat)(h:i<q.length):arcX (q.take (i+1))=max (arcX (q.take i)) (nthQ q i).a.length:=by unfold arcX;rw[show q.take (i+1)=q.take i++[nthQ q i]from staR.take_nth q i h,List.foldl_append];rfl
def layM(m:Mach)(t:List Str):Lay:=⟨t.length,(wts m).length,m.q.length,arcX m.q⟩
def totQ(x:Lay)(q:List Sta)(i:Nat):Nat:=((q.take i).map (zcf x)).sum
def zdd(x:Lay)(q:List Sta)(i:Nat)(h:i<q.length):totQ x q (i+1)=totQ x q i+zcf x (nthQ q i):=by unfold totQ;rw[show q.take (i+1)=q.take i++[nthQ q i]from staR.take_nth q i h,YV,List.sum_append];simp
def idx_7(a0 a1 a2 a3 a4 a5 a6 j:Nat)(H:Hp)(hj:j<7):zbZ prog 66 (.agg [.int .i64 a0,.int .i64 a1,.int .i64 a2,.int .i64 a3,.int .i64 a4,.int .i64 a5,.int .i64 a6]) (.int .i64 j) H=⟨True,.int .i64 (([a0,a1,a2,a3,a4,a5,a6].getD j 0:Nat):Int),H,[],[]⟩:=by
 rcases(show j=0∨j=1∨j=2∨j=3∨j=4∨j=5∨j=6 by omega)with rfl|rfl|rfl|rfl|rfl|rfl|rfl
 ·kernel_rfl
 ·kernel_rfl
 ·kernel_rfl
 ·kernel_rfl
 ·kernel_rfl
 ·kernel_rfl
 kernel_rfl
def varL(L:ZN)(j:Nat):ZL:=(L.take j).flatMap (varF 5)
def zhh(L:ZN)(j:Nat)(h:j<L.length):varL L (j+1)=varL L j++varF 5 (L.getD j 0):=by unfold varL;rw[YaG,Yb h,List.flatMap_append];simp[h]
def zkb(L:ZN):∀j,j≤L.length→(varL L j).length≤6*j
 |0,_=>by simp[varL]
 |j+1,h=>by have:=zkb L j Zo;have h1:=zcS 5 (L.getD j 0);rw[zhh L j Zo,Yd];omega
def headB(m:Mach)(t:List Str):ZL:=
 [65,66,71,49]++[UInt8.ofNat m.k.toNat]++varL [t.length,(wts m).length,m.q.length,m.s.toNat,(valS (wnum (wts m) (wts m).length) m.l).toNat,arcX m.q,totQ (layM m t) m.q m.q.length] 7++za3 [] t++za3 [] (wts m)
def offP(x:Lay)(q:List Sta)(i:Nat):List (Nat×Nat):=(List.range i).map fun k=>(totQ x q k,widI (totQ x q q.length))
def zeK(x:Lay)(e:Ens)(q:List Sta)(i:Nat):List (Nat×Nat):=(q.take i).flatMap (staP x e)
def zlS(m:Mach)(t:List Str):WS:=
 zcu (numL (zeK (layM m t) (wnum (wts m) (wts m).length) m.q m.q.length) (numL (offP (layM m t) m.q m.q.length) (headB m t,0,0)))
def zgj(m:Mach)(t:List Str):ZL:=(zlS m t).1++sumB (zlS m t).1
def zfw(m:Mach)(t:List Str):ZL×Int:=
 if (zco m&&tabB t&&decide (sigM m≤t.length))=true then(if 1048576<(zgj m t).length then([],2)else(zgj m t,0))else([],1)
def byR(p:ZL×Int):V:=.tup [.fs (p.1.map zt) p.1.length,.int .i64 p.2]
structure PackOK(m:Mach)(t:List Str):Prop where
 fit:FitM m
 tl:t.length≤1000000000
 ts:∀j,(t.getD j []).length≤1000000000
 ws:∀w∈wtsM m,w.length≤1000
def pl_7:zb5 prog 66=none:=Zk
theorem buK_7(z:Value)(parts:List (Nat×V))(H:Hp)(orig:AR):buK (some z) none parts H orig=orig:=rfl
def bld_7(a0 a1 a2 a3 a4 a5 a6:Int)(H:Hp):zqD prog 66 [(0,.int .i64 a0),(1,.int .i64 a1),(2,.int .i64 a2),(3,.int .i64 a3),(4,.int .i64 a4),(5,.int .i64 a5),(6,.int .i64 a6)] H=⟨True,.agg [.int .i64 a0,.int .i64 a1,.int .i64 a2,.int .i64 a3,.int .i64 a4,.int .i64 a5,.int .i64 a6],H,[],[]⟩:=Zk
def zel:∀(l:List Str)(p:Str),(za3 p l).length≤12*l.length+sumL l
 |[],_=>by simp[za3]
 |s::l,p=>by have ih:=zel l s;have h1:=zcS 5 (cpl p s);have h2:=zcS 5 (s.length-cpl p s);show (varF 5 (cpl p s)++(varF 5 (s.length-cpl p s)++(s.drop (cpl p s)++za3 s l))).length≤_;unfold sumL at*;simp only[Yd,YI,Yn,YN,List.sum_cons];omega
def zfy(x:Lay)(q:List Sta)(i:Nat):offP x q (i+1)=offP x q i++[(totQ x q i,widI (totQ x q q.length))]:=by unfold offP;rw[List.range_succ,YV];rfl
def zfZ(x:Lay)(e:Ens)(q:List Sta)(i:Nat)(h:i<q.length):zeK x e q (i+1)=zeK x e q i++staP x e (nthQ q i):=by unfold zeK;rw[show q.take (i+1)=q.take i++[nthQ q i]from staR.take_nth q i h,List.flatMap_append];simp
def zmQ(x:Lay)(q:List Sta):∀i,zbK (offP x q i)≤64*i
 |0=>by simp[offP,zbK]
 |i+1=>by have ih:=zmQ x q i;have:=zc6 (totQ x q q.length);rw[zfy];unfold zbK at*;rw[YV,List.sum_append];simp;omega
def zf0 {x:Lay}{e:Ens}(h:LayOK x e)(q:List Sta):∀i,i≤q.length→zbK (zeK x e q i)≤100*i+100*sumA q i
 |0,_=>by simp[zeK,zbK]
 |i+1,hi=>by have ih:=zf0 h q i Zo;have h1:=zd7 h (nthQ q i) (nthQ q i).a.length (Yc _);rw[zgS]at h1;rw[zfZ x e q i Zo,zde q i Zo];unfold zbK at*;rw[YV,List.sum_append];omega
theorem zwZ(b:Nat):zdh (.map b)=[]:=rfl
attribute [local go_sem] zwZ
def zjz {m:Mach}(h:zco m=true):1≤m.k∧m.k≤3∧1≤m.q.length∧m.q.length≤3000∧0≤m.s∧m.s<m.q.length∧arcN m.q≤30000∧∀s∈m.q,∀a∈s.a,zgN a:=by unfold zco zb7 at h;simp only[Yg,Yq]at h;obtain⟨⟨⟨⟨⟨⟨⟨⟨h1,h2⟩,h3⟩,h4⟩,h5⟩,h6⟩,h7⟩,h8⟩,h9⟩:=h;refine⟨h1,h2,h3,h4,h5,h6,h9,fun s hs a ha=>?_⟩;have:=Yo.1 h8 s hs;unfold staB at this;rw[Yg]at this;have:=Yo.1 this.2 a ha;unfold arcB at this;simp only[Yg,Yq]at this;obtain⟨⟨⟨⟨⟨⟨a1,a2⟩,a3⟩,a4⟩,a5⟩,a6⟩,_⟩:=this;exact⟨a1,Zo,a3,Zo,a5,Zo⟩
def zqN(m:Mach):(wtsM m).length≤1+m.q.length+arcN m.q:=by
 unfold wtsM arcN;rw[Yn];have:∀q:List Sta,(q.flatMap wtsS).length≤q.length+(q.map fun s=>s.a.length).sum:=by
  intro q;induction q with
  |nil=>simp
  |cons s q ih=>
   rw[List.flatMap_cons,Yd,YN,List.sum_cons,Yn];have:(wtsS s).length≤1+s.a.length:=by unfold wtsS wtsA;split<;>simp<;>omega
   omega
 have:=this m.q;omega
def zvQ(m:Mach):(wts m).length≤(wtsM m).length:=by have h1:=ze9 (srtS (wtsM m));rw[zku]at h1;exact h1
def zox(m:Mach)(w:Str):w∈wts m↔w∈wtsM m:=by unfold wts;rw[(zfa (zeW (wtsM m))).2];unfold srtS;exact List.mem_mergeSort
def zki {l:List Str}{k:Nat}(h:∀s∈l,s.length≤k):sumL l≤l.length*k:=by
 induction l with
 |nil=>simp[sumL]
 |cons x l ih=>have h1:=h x Zs;have h2:=ih fun s hs=>h s (by simp[hs]);unfold sumL at*;rw[YN,List.sum_cons,Yn,Yal];omega
def zdV {q:List Sta}{s:Sta}(h:s∈q):s.a.length≤arcN q:=by
 unfold arcN;induction q with
 |nil=>simp at h
 |cons x q ih=>
  rw[YN,List.sum_cons];rcases Yy.1 h with rfl|h
  ·omega
  have:=ih h;omega
def zdB(x:Lay)(q:List Sta):∀i,i≤q.length→totQ x q i≤200*i+300*sumA q i
 |0,_=>by simp[totQ]
 |i+1,h=>by
  have ih:=zdB x q i Zo;have h1:=zdG x (nthQ q i) (nthQ q i).a.length (Yc _);have e9:sizeT x (nthQ q i) (nthQ q i).a.length=zcf x (nthQ q i):=by unfold sizeT zcf;rw[Ym]
  rw[zdd x q i Zo,zde q i Zo];omega
def zlY(q:List Sta):∀i,i≤q.length→arcX (q.take i)≤arcN q
 |0,_=>by simp[arcX]
 |i+1,h=>by have ih:=zlY q i Zo;have h1:(nthQ q i).a.length≤arcN q:=zdV (staR.nth_mem (show i<q.length by omega));rw[ziB q i Zo];omega
def zmk {t:List Str}(h:tabB t=true):t.length≤500∧∀s∈t,s.length≤40:=by unfold tabB at h;simp only[Yg,Yq]at h;refine⟨h.1.1,fun s hs=>?_⟩;have:=Yo.1 h.1.2 s hs;unfold symN at this;simp only[Yg,Yq]at this;exact this.1.2
def zrq(a b:Nat):maxI (a:Int) (b:Int)=((max a b:Nat):Int):=by unfold maxI;split<;>omega
def pack_ok(m:Mach)(t:List Str)(h:PackOK m t):PCall prog 8 [zU m,.fs (strs t) t.length] (.ret (byR (zfw m t))):=by
 have hΓ:=zg zsj (zg cSymV_ok (zg cSig_ok (zg cWts_ok (zg zdU zh))));have hΔ:=Δp_ok;have hv1:=zsk m h.fit;have hv2:=cSymV_eq t h.tl h.ts;have hv3:=cSig_eq m h.fit;have hR:zfw m t=if (zco m&&tabB t&&decide (sigM m≤t.length))=true then(if 1048576<(zgj m t).length then([],2)else(zgj m t,0))else([],1):=rfl
 obtain⟨R,hRe⟩:∃R,R=zfw m t:=⟨_,rfl⟩;rw[←hRe]at hR ⊢;clear hRe;cases hc:(zco m&&tabB t&&decide (sigM m≤t.length))with
 |false=>
  rw[hc,Yh Zd]at hR;subst hR;unfold zU at hv1 hv3 ⊢;refine PCall.walk (rs:=[.tmp 4,.tmp 5]) [0,1,2,4,5,6,7,8,9,11,12,14,15,17,18,20,22,37,49,50,51,52,62,63,64,65,77,78,79,80,118,119,120,133,134,135,136,151,152,153,154,179] [24] mixed (hΓ) (hΔ) call8 func8 rfl ntmps8 rfl Zk Zs (by simp[push_cast,zaj]) ?_;have fz1:∀H:Hp,Frz H (.tup [.nilS,.int .i64 1]) (byR ([],1)):=fun H=>zb8 .nil0 (zb8 (.pure (.int _ _)) (.pure (.tup Zs)));cases c1:zco m with
  |false=>rw[c1]at hv1;simp(disch:=try exact Zq)only[go_sem,hv1,hv2,hv3];exact fz1 _
  |true=>
   rw[c1]at hv1 hc;cases c2:tabB t with
   |false=>rw[c2]at hv2;simp(disch:=try exact Zq)only[go_sem,hv1,hv2,hv3];exact fz1 _
   |true=>
    rw[c2]at hv2 hc;have d3:decide ((t.length:Int)<sigM m)=true:=Yf (by
     have:decide (sigM m≤(t.length:Int))=false:=by simpa using hc
     have:=of_decide_eq_false this;omega)
    simp(disch:=try exact Zq)only[go_sem,hv1,hv2,hv3,d3];exact fz1 _
 |true=>
  rw[hc,Yi rfl]at hR;simp only[Yg]at hc;obtain⟨⟨c1,c2⟩,c3⟩:=hc;rw[c1]at hv1;rw[c2]at hv2;have c3':sigM m≤t.length:=Yaq c3;have d3:decide ((t.length:Int)<sigM m)=false:=Ye Zo;obtain⟨f1,f2,f3,f4,f5,f6,f7,f8⟩:=zjz c1;obtain⟨t1,t2⟩:=zmk c2;have g1:=zqN m;have g2:=zvQ m;have hw:=cWts_eq m Zo Zo;unfold zU at hv1 hv3 hw ⊢;refine PCall.walk (rs:=[.tmp 4,.tmp 5]) [0,1,2,4,5,6,7,8,9,11,12,14,15,17,18,20,22,37,49,50,51,52,62,63,64,65,77,78,79,80,118,119,120,133,134,135,136,151,152,153,154,179] [24] mixed (hΓ) (hΔ) call8 func8 rfl ntmps8 rfl Zk Zs (by simp[push_cast,zaj]) ?_;simp(disch:=try exact Zq)only[go_sem,hv1,hv2,hv3,d3,hw];obtain⟨W,hW⟩:∃W,W=wts m:=⟨_,rfl⟩;rw[←hW];have g3:W.length≤33001:=by rw[hW];omega
  refine AXs.loop mixed (hΓ) (hΔ) (ι:=Nat) (fun i=>[(51,.int .i64 i),(50,.int .i64 W.length),(49,.fs (strs W) W.length),(7,.ptr 1 0),(6,.fs (strs W) W.length),(2,.fp [.int .i64 m.k,.int .i64 m.s,.str m.l,.fs (stas m.q) m.q.length]),(1,.fs (strs t) t.length)])
   (fun i=>⟨[(1,.cells [.int .i64 t.length,.int .i64 W.length,.int .i64 m.q.length,.int .i64 0,.map 0]),(0,.mp (mpS 0 (wnum W i)) (wnum W i).length)],2⟩) (fun i=>i≤W.length) (fun i=>W.length-i) 0 Zk (Yk _) (Xa [] rfl rfl ?_ ?_) ?_
  ·simp only[go_sem]
  ·show subH _ _ _ [(1,_),(0,.mp (mpS 0 []) 0)];simp only[go_sem,zhB];exact(zhB [] 0).2 trivial
  intro i hi0;simp(disch:=try exact Zq)only[go_sem];refine Xb (fun hc=>?_) (fun hc=>?_)
  ·have hi:i<W.length:=Zo;have ei:(i:Int)+1=((i+1:Nat):Int):=Zo;have hsu:=zhg W i hi;simp(disch:=try exact Zq)only[go_sem,ei];refine⟨Zo,Zo,zi (i+1) hi Zo (Xa [] rfl rfl ?_ ?_)⟩
   ·simp only[go_sem]
   rw[hsu];simp only[go_sem,zhB]
  obtain rfl:i=W.length:=Zo;obtain⟨E,hE⟩:∃E,E=wnum W W.length:=⟨_,rfl⟩;rw[←hE];simp(disch:=try exact Zq)only[go_sem];refine AXa.go mixed (hΓ) (hΔ) Zk ?_;simp(disch:=try exact Zq)only[go_sem];refine AXs.loop mixed (hΓ) (hΔ) (ι:=Nat) (fun i=>[(64,.int .i64 i),(63,.int .i64 m.q.length),(62,.fs (stas m.q) m.q.length),(7,.ptr 1 0),(6,.fs (strs W) W.length),(2,.fp [.int .i64 m.k,.int .i64 m.s,.str m.l,.fs (stas m.q) m.q.length]),(1,.fs (strs t) t.length)])
   (fun i=>⟨[(1,.cells [.int .i64 t.length,.int .i64 W.length,.int .i64 m.q.length,.int .i64 (arcX (m.q.take i):Nat),.map 0]),(0,mpB E)],2⟩) (fun i=>i≤m.q.length) (fun i=>m.q.length-i) 0 Zk (Yk _) (Xa [] rfl rfl ?_ ?_) ?_
  ·simp only[go_sem]
  ·simp only[go_sem];exact⟨rfl,zm0 E⟩
  intro i hi0;have hax:=zlY m.q i hi0;simp(disch:=try exact Zq)only[go_sem];refine Xb (fun hc=>?_) (fun hc=>?_)
  ·have hi:i<m.q.length:=Zo;have at1:=zbU m.q i hi;have ei:(i:Int)+1=((i+1:Nat):Int):=Zo;have hsu:=ziB m.q i hi;simp(disch:=try exact Zq)only[go_sem,at1,ei,zrq];rw[←hsu];refine⟨Zo,zi (i+1) hi Zo (Xa [] rfl rfl ?_ ?_)⟩
   ·simp only[go_sem]
   simp only[go_sem]
  obtain rfl:i=m.q.length:=Zo;rw[Ym]at hax;rw[Ym];simp(disch:=try exact Zq)only[go_sem];refine AXa.go mixed (hΓ) (hΔ) Zk ?_;simp(disch:=try exact Zq)only[go_sem];obtain⟨X,hX⟩:∃X,X=layM m t:=⟨_,rfl⟩;have hX':X=⟨t.length,W.length,m.q.length,arcX m.q⟩:=by rw[hX,layM,hW]
  refine AXs.loop mixed (hΓ) (hΔ) (ι:=Nat) (fun i=>[(79,.int .i64 i),(78,.int .i64 m.q.length),(77,.fs (stas m.q) m.q.length),(12,.int .i64 (totQ X m.q i:Nat)),(7,.ptr 1 0),(6,.fs (strs W) W.length),(2,.fp [.int .i64 m.k,.int .i64 m.s,.str m.l,.fs (stas m.q) m.q.length]),(1,.fs (strs t) t.length)])
   (fun _=>⟨[(1,.cells [.int .i64 t.length,.int .i64 W.length,.int .i64 m.q.length,.int .i64 (arcX m.q:Nat),.map 0]),(0,mpB E)],2⟩) (fun i=>i≤m.q.length) (fun i=>m.q.length-i) 0 Zk (Yk _) (Xa [] rfl rfl ?_ ?_) ?_
  ·simp only[go_sem];rfl
  ·simp only[go_sem]
  intro i hi0;have htl:=zdB X m.q i hi0;have hsl:sumA m.q i≤30000:=Ys (za7 m.q hi0 (Yc _)) (by rw[zaM];exact f7);simp(disch:=try exact Zq)only[go_sem];refine Xb (fun hc=>?_) (fun hc=>?_)
  ·have hi:i<m.q.length:=Zo;have at1:=zbU m.q i hi;have ei:(i:Int)+1=((i+1:Nat):Int):=Zo;have hsu:=zdd X m.q i hi;have hal:(nthQ m.q i).a.length≤arcN m.q:=zdV (staR.nth_mem hi);have htl2:=zdB X m.q (i+1) hi;have hsl2:sumA m.q (i+1)≤30000:=Ys (za7 m.q (show i+1≤m.q.length from hi) (Yc _)) (by rw[zaM];exact f7);have htq:X=⟨t.length,W.length,m.q.length,arcX m.q⟩:=hX';have eT:(totQ X m.q i:Int)+(zcf ⟨t.length,W.length,m.q.length,arcX m.q⟩ ⟨(nthQ m.q i).f,(nthQ m.q i).a⟩:Nat)=((totQ X m.q (i+1):Nat):Int):=by rw[hsu,←htq];exact(Int.natCast_add _ _).symm
   simp(disch:=try exact Zp)only[go_sem,at1,ei,zqK,eT];refine⟨Zo,zi (i+1) hi Zo (Xa [] rfl rfl ?_ ?_)⟩
   ·simp only[go_sem]
   simp only[go_sem]
  obtain rfl:i=m.q.length:=Zo;obtain⟨sn,hsn⟩:∃n:Nat,m.s=n:=⟨m.s.toNat,Zo⟩;obtain⟨kn,hkn⟩:∃n:Nat,m.k=n:=⟨m.k.toNat,Zo⟩;obtain⟨vn,hvn⟩:∃n:Nat,valS E m.l=n:=⟨(valS E m.l).toNat,by have:=(zfo W m.l W.length (Yc _)).1;rw[←hE]at this;omega⟩;have hvb:vn≤33001:=by have:=(zfo W m.l W.length (Yc _)).2;rw[←hE,hvn]at this;omega
  have hT:sumA m.q m.q.length=arcN m.q:=zaM m.q;obtain⟨T,hTe⟩:∃T,T=totQ X m.q m.q.length:=⟨_,rfl⟩;rw[←hTe]at htl ⊢;have ek:IntKind.u8.wrap (kn:Int)=(kn:Int):=by rw[IntKind.wrap_u8'];omega
  have n0:([65,66,71,49]:ZL)≠[]:=Zd;simp(disch:=try exact Zq)only[go_sem];refine AXa.go mixed (hΓ) (hΔ) Zk ?_;simp(disch:=try exact Zp)only[go_sem,Δp_str0,Δp_byte,hsn,hkn,hvn,ek,Yp];refine AXk.intro Zk ?_;obtain⟨h0,hh0⟩:∃h0:ZL,h0=[65,66,71,49,UInt8.ofNat kn]:=⟨_,rfl⟩;rw[←hh0];have m0:h0≠[]:=by rw[hh0];simp
  have z0:5=h0.length:=by rw[hh0];rfl
  simp(disch:=try exact Zp)only[go_sem,hsn,hkn,hvn,ek,Yp,zvG,pl_7,buK_7,bld_7,idx_7];obtain⟨L,hL⟩:∃L:ZN,L=[t.length,W.length,m.q.length,sn,vn,arcX m.q,T]:=⟨_,rfl⟩;have hL7:L.length=7:=by rw[hL];rfl
  have hLb:∀j,L.getD j 0<128^6:=by
   intro j;rw[hL];match j with
   |0=>show t.length<_;omega
   |1=>show W.length<_;omega
   |2=>show m.q.length<_;omega
   |3=>show sn<_;omega
   |4=>show vn<_;omega
   |5=>show arcX m.q<_;omega
   |6=>show T<_;omega
   |j+7=>show 0<_;omega
  have idx:∀(j:Nat)(H:Hp),j<7→zbZ prog 66 (.agg [.int .i64 t.length,.int .i64 W.length,.int .i64 m.q.length,.int .i64 sn,.int .i64 vn,.int .i64 (arcX m.q:Nat),.int .i64 T]) (.int .i64 j) H=⟨True,.int .i64 ((L.getD j 0:Nat):Int),H,[],[]⟩:=fun j H hj=>by rw[hL];exact idx_7 _ _ _ _ _ _ _ j H hj
  refine AXs.loop mixed (hΓ) (hΔ) (ι:=Nat) (fun j=>[(119,.int .i64 j),(118,.agg [.int .i64 t.length,.int .i64 W.length,.int .i64 m.q.length,.int .i64 sn,.int .i64 vn,.int .i64 (arcX m.q:Nat),.int .i64 T]),(15,.ptr 2 0),(12,.int .i64 T),(7,.ptr 1 0),(6,.fs (strs W) W.length),(2,.fp [.int .i64 kn,.int .i64 sn,.str m.l,.fs (stas m.q) m.q.length]),(1,.fs (strs t) t.length)])
   (fun j=>⟨[(3,bly (h0++varL L j)),(2,.cells [.sl 3 0 (h0++varL L j).length 1 none,.int .i64 0,.int .i8 0,.int .u8 0,.int .i64 0]),(1,.cells [.int .i64 t.length,.int .i64 W.length,.int .i64 m.q.length,.int .i64 (arcX m.q:Nat),.map 0]),(0,mpB E)],4⟩) (fun j=>j≤7) (fun j=>7-j) 0 Zk (Yk _) (Xa [(3,4)] rfl rfl ?_ ?_) ?_
  ·simp only[go_sem]
  ·have e0:h0++varL L 0=h0:=by simp[varL]
   rw[e0,←z0];simp only[go_sem]
  intro j hj0;have hvl:=zkb L j Zo;have mj:h0++varL L j≠[]:=by simp[m0]
  have hlj:(h0++varL L j).length≤90000000:=by rw[Yd];omega
  have hLj:=hLb j;simp(disch:=try exact Zq)only[go_sem];refine Xb (fun hc=>?_) (fun hc=>?_)
  ·have hj:j<7:=Zo;have ej:(j:Int)+1=((j+1:Nat):Int):=Zo;have hsu:=zhh L j Zo;simp(disch:=try exact Zp)only[go_sem,idx,zvG,ej];rw[YR,←hsu];exact zi (j+1) hj Zo (Xa [(3,4)] rfl rfl Zg Zg)
  obtain rfl:j=7:=Zo;have hsW:sumL W≤W.length*1000:=zki fun w hw=>h.ws w ((zox m w).1 (by rw[←hW];exact hw));have hst:sumL t≤t.length*40:=zki t2;have fl1:=zel t [];have fl2:=zel W [];have hsW':sumL W≤33001000:=Ys hsW Zo;have hst':sumL t≤20000:=Ys hst Zo;obtain⟨B0,hB0⟩:∃B0,B0=h0++varL L 7:=⟨_,rfl⟩;rw[←hB0]at mj hlj ⊢;have hB0l:B0.length≤47:=by rw[hB0,Yd];omega
  have p1:B0.length+20*t.length+sumL t≤80000000:=Zo;have p2:∀s∈t,s.length≤1000000:=fun s hs=>Ys (t2 s hs) Zd;have p3:(B0++za3 [] t).length+20*W.length+sumL W≤80000000:=by rw[Yd];omega
  have p4:∀s∈W,s.length≤1000000:=fun s hs=>Ys (h.ws s ((zox m s).1 (by rw[←hW];exact hs))) Zd;have mj1:B0++za3 [] t≠[]:=by simp[mj]
  simp(disch:=try exact Zq)only[go_sem];refine AXa.go mixed (hΓ) (hΔ) Zk ?_;simp(disch:=try exact Zp)only[go_sem,Δp_fold];obtain⟨B2,hB2⟩:∃B2,B2=B0++za3 [] t++za3 [] W:=⟨_,rfl⟩;rw[←hB2];have m2:B2≠[]:=by rw[hB2];simp[mj]
  have hB2l:B2.length≤34000000:=by rw[hB2,Yd,Yd];omega
  have ok2:okW (B2,0,0):=⟨by show 0<256;omega,by show 0≤7;omega,by show 0%2^0=0;rfl,m2⟩;refine AXs.loop mixed (hΓ) (hΔ) (ι:=Nat×WS) (fun i=>[(135,.int .i64 i.1),(134,.int .i64 m.q.length),(133,.fs (stas m.q) m.q.length),(18,.int .i64 (totQ X m.q i.1:Nat)),(15,.ptr 2 0),(12,.int .i64 T),(7,.ptr 1 0),(6,.fs (strs W) W.length),(2,.fp [.int .i64 kn,.int .i64 sn,.str m.l,.fs (stas m.q) m.q.length]),(1,.fs (strs t) t.length)])
   (fun i=>⟨[(3,bly i.2.1),(2,.cells [.sl 3 0 i.2.1.length 1 none,.int .i64 0,.int .i8 0,.int .u8 (i.2.2.1:Nat),.int .i64 (i.2.2.2:Nat)]),(1,.cells [.int .i64 t.length,.int .i64 W.length,.int .i64 m.q.length,.int .i64 (arcX m.q:Nat),.map 0]),(0,mpB E)],4⟩) (fun i=>i.1≤m.q.length∧i.2=numL (offP X m.q i.1) (B2,0,0)) (fun i=>m.q.length-i.1) (0,(B2,0,0)) Zk ⟨Yk _,rfl⟩ (Xa [(3,5)] rfl rfl ?_ ?_) ?_
  ·simp only[go_sem];rfl
  ·simp only[go_sem]
  rintro⟨i,d,la,fr⟩ ⟨q1,q2⟩;dsimp only at q1 q2;have gok:=zhP (offP X m.q i) (B2,0,0) ok2;have gbi:=zmQ X m.q i;rw[←q2]at gok;obtain⟨gk,gl⟩:=gok;dsimp only at gl;have htq:=zdB X m.q i q1;have hsl:sumA m.q i≤30000:=Ys (za7 m.q q1 (Yc _)) (by rw[zaM];exact f7);simp(disch:=try exact Zq)only[go_sem];refine Xb (fun hc=>?_) (fun hc=>?_)
  ·have hi:i<m.q.length:=Zo;have at1:=zbU m.q i hi;have ei:(i:Int)+1=((i+1:Nat):Int):=Zo;have hsu:=zdd X m.q i hi;have hal:(nthQ m.q i).a.length≤arcN m.q:=zdV (staR.nth_mem hi);have htl2:=zdB X m.q (i+1) hi;have hsl2:sumA m.q (i+1)≤30000:=Ys (za7 m.q (show i+1≤m.q.length from hi) (Yc _)) (by rw[zaM];exact f7);have eT:(totQ X m.q i:Int)+(zcf ⟨t.length,W.length,m.q.length,arcX m.q⟩ ⟨(nthQ m.q i).f,(nthQ m.q i).a⟩:Nat)=((totQ X m.q (i+1):Nat):Int):=by rw[hsu,←hX'];exact(Int.natCast_add _ _).symm
   have hwT:widI T≤30:=zoy (n:=T) (k:=30) Zo Zd;simp(disch:=try exact Zp)only[go_sem,at1,ei,zqK,Δp_num,zab,eT,Yp];have hnx:numW (widI T) (totQ X m.q i) (d,la,fr)=numL (offP X m.q (i+1)) (B2,0,0):=by rw[zfy,zb6,←q2,←hTe];rfl
   refine⟨Zo,zi (i+1,numW (widI T) (totQ X m.q i) (d,la,fr)) ⟨hi,hnx⟩ (by show m.q.length-(i+1)<m.q.length-i;omega) (Xa [(3,5)] rfl rfl ?_ ?_)⟩
   ·simp only[go_sem]
   simp only[go_sem]
  obtain rfl:i=m.q.length:=Zo;have hE0:∀a,0≤valS E a∧valS E a<1000000:=fun a=>by have:=zfo W a W.length (Yc _);rw[←hE]at this;omega
  have hax2:=zlY m.q m.q.length (Yc _);rw[Ym]at hax2;have hLO:LayOK ⟨t.length,W.length,m.q.length,arcX m.q⟩ E:=⟨by show t.length≤_;omega,by show W.length≤_;omega,by show m.q.length≤_;omega,by show arcX m.q≤_;omega,hE0⟩;have hLX:LayOK X E:=by rw[hX'];exact hLO
  obtain⟨S8,hS8⟩:∃S8:WS,S8=(d,la,fr):=⟨_,rfl⟩;have hd:d=S8.1:=by rw[hS8]
  have hla:la=S8.2.1:=by rw[hS8]
  have hfr:fr=S8.2.2:=by rw[hS8]
  have gk8:okW S8:=by rw[hS8];exact gk
  have gl8:S8.1.length≤34200000:=by rw[←hd];omega
  rw[←hS8]at q2;simp(disch:=try exact Zq)only[go_sem];refine AXa.go mixed (hΓ) (hΔ) Zk ?_;simp(disch:=try exact Zq)only[go_sem];rw[hd,hla,hfr];clear hd hla hfr hS8 gk gl gbi mj1 p1 p3 hlj;clear d la fr;refine AXs.loop mixed (hΓ) (hΔ) (ι:=Nat×WS) (fun i=>[(153,.int .i64 i.1),(152,.int .i64 m.q.length),(151,.fs (stas m.q) m.q.length),(15,.ptr 2 0),(7,.ptr 1 0),(6,.fs (strs W) W.length),(2,.fp [.int .i64 kn,.int .i64 sn,.str m.l,.fs (stas m.q) m.q.length]),(1,.fs (strs t) t.length)])
   (fun i=>⟨[(3,bly i.2.1),(2,.cells [.sl 3 0 i.2.1.length 1 none,.int .i64 0,.int .i8 0,.int .u8 (i.2.2.1:Nat),.int .i64 (i.2.2.2:Nat)]),(1,.cells [.int .i64 t.length,.int .i64 W.length,.int .i64 m.q.length,.int .i64 (arcX m.q:Nat),.map 0]),(0,mpB E)],4⟩) (fun i=>i.1≤m.q.length∧i.2=numL (zeK X E m.q i.1) S8) (fun i=>m.q.length-i.1) (0,S8) Zk ⟨Yk _,rfl⟩ (Xa [] rfl rfl ?_ ?_) ?_
  ·simp only[go_sem]
  ·simp only[go_sem]
  rintro⟨i,d,la,fr⟩ ⟨u1,u2⟩;dsimp only at u1 u2;have gok:=zhP (zeK X E m.q i) S8 gk8;have gbi:=zf0 hLX m.q i u1;rw[←u2]at gok;obtain⟨gk,gl⟩:=gok;dsimp only at gl;have hsl3:sumA m.q i≤30000:=Ys (za7 m.q u1 (Yc _)) (by rw[zaM];exact f7);simp(disch:=try exact Zq)only[go_sem];refine Xb (fun hc=>?_) (fun hc=>?_)
  ·have hi:i<m.q.length:=Zo;have at1:=zbU m.q i hi;have ei:(i:Int)+1=((i+1:Nat):Int):=Zo;have hal:(nthQ m.q i).a.length≤arcN m.q:=zdV (staR.nth_mem hi);have haa:∀x∈(nthQ m.q i).a,zgN x:=f8 _ (staR.nth_mem hi);simp(disch:=try exact Zp)only[go_sem,at1,ei,zvH];have hnx:numL (staP ⟨t.length,W.length,m.q.length,arcX m.q⟩ E ⟨(nthQ m.q i).f,(nthQ m.q i).a⟩) (d,la,fr)=numL (zeK X E m.q (i+1)) S8:=by rw[zfZ X E m.q i hi,zb6,←u2,hX']
   refine⟨Zo,zi (i+1,numL (staP ⟨t.length,W.length,m.q.length,arcX m.q⟩ E ⟨(nthQ m.q i).f,(nthQ m.q i).a⟩) (d,la,fr)) ⟨hi,hnx⟩ (by show m.q.length-(i+1)<m.q.length-i;omega) (Xa [(3,5)] rfl rfl ?_ ?_)⟩
   ·simp only[go_sem]
   simp only[go_sem]
  obtain rfl:i=m.q.length:=Zo;have hfl:(zcu (d,la,fr)).1≠[]∧(zcu (d,la,fr)).1.length≤d.length+1:=by
   unfold zcu;dsimp only;split
   ·exact⟨gk.2.2.2,Ybt _⟩
   exact⟨Zs,Zs⟩
  obtain⟨F,hF⟩:∃F,F=(zcu (d,la,fr)).1:=⟨_,rfl⟩;have hfile:zgj m t=F++sumB F:=by
   have hb:zlS m t=zcu (d,la,fr):=by unfold zlS;rw[←hX,←hW,←hE,u2,q2];congr 3;rw[hB2,hB0,hh0];unfold headB;rw[←hX,←hW,←hE,hkn,hsn,hvn,hL,←hTe];simp
   unfold zgj;rw[hb,←hF]
  rw[←hF]at hfl;obtain⟨w1,w2⟩:=hfl;have w3:(sumB F).length=4:=rfl;have w4:F++sumB F≠[]:=by simp[w1]
  have w5:(F++sumB F).length≤90000000:=by rw[Yd];omega
  simp(disch:=try exact Zq)only[go_sem];refine AXa.go mixed (hΓ) (hΔ) Zk ?_;simp(disch:=try exact Zp)only[go_sem,zqL];rw[←hF];simp(disch:=try exact Zp)only[go_sem,zqL,zg7,Δp_sum,Δp_wrt];refine AXk.intro Zk ?_;by_cases hbig:1048576<(F++sumB F).length
  ·have db:decide (1048576<((F++sumB F).length:Int))=true:=Yf Zo;rw[hfile,Yi hbig]at hR;subst hR;simp(disch:=try exact Zp)only[go_sem,zg7,db];exact zb8 .nil0 (zb8 (.pure (.int _ _)) (.pure (.tup Zs)))
  have db:decide (1048576<((F++sumB F).length:Int))=false:=Ye Zo;rw[hfile,Yh hbig]at hR;subst hR;simp(disch:=try exact Zp)only[go_sem,zg7,db];refine zb8 (Xp (t:=5) (cs:=(F++sumB F).map zt) rfl ?_ ?_ (zad _)) (zb8 (.pure (.int _ _)) (.pure (.tup Zs)))
  ·rw[Y5];omega
  rw[Y1,Yag,Yl (by rw[Y5];exact Yc _)]
def cPack:ZV:=zC (fun p:Mach×List Str=>[zU p.1,.fs (strs p.2) p.2.length]) (fun p=>PackOK p.1 p.2) fun p=>.ret (byR (zfw p.1 p.2))
def zlK(m:Mach)(t:List Str)(h:PackOK m t):cPack [zU m,.fs (strs t) t.length]=some (.ret (byR (zfw m t))):=
 zo (pat:=fun p:Mach×List Str=>[zU p.1,V.fs (strs p.2) p.2.length]) (fun x y h=>by simp only[Yw,V.fs.injEq,Yap]at h;exact Yai (zbD h.1) (za1 h.2.1)) (m,t) h
def zlJ:ZC cPack 8:=zn fun p h=>pack_ok p.1 p.2 h
attribute [local go_sem] zbJ
section
variable {P:Program}
def XD {f:FuncId}{args:ZA}{X0 X:ZL}{n:Nat}(hN:NCall P f args [bly X0] [0] (.sl 1 0 n 1 Option.none) ⟨[(1,bly X)],2⟩) (b:Nat) (args':ZA) (H:Hp) (ha:LRel (Rn (fun i=>[b].getD i 0) (· <1)) args args') (hb:H.get b=some (bly X0)) (hk:∀b x,H.get b=some x→b<H.next):HCall P f args' H ⟨True,.sl H.next 0 n 1 Option.none,(H.kill b).new (bly X),[b],[b]⟩:=by
 have tc:zu [b] H.next H.next=1:=by unfold zu;rw[Yh Zo];simp
 refine HCall.of hN [b] args' (.sl H.next 0 n 1 Option.none) H ((H.kill b).new (bly X)) rfl Zs ha (fun i x hx=>?_) ?_ (by show H.next+1+1=H.next+2;omega) (fun b' x' hx'=>?_) (fun b' hb' hw=>?_)
 ·match i with
  |0=>cases hx;exact⟨b,_,rfl,hb,zbo X0⟩
  |i+1=>simp at hx
 ·have:=Rn.sl (π:=zu [b] H.next) (N:=fun b'=>b'∈[b]∨(H.next≤b'∧b'<((H.kill b).new (bly X)).next)) (b:=H.next) (off:=0) (len:=n) (sz:=1) (kc:=Option.none) (kc':=Option.none) (.inr ⟨Yc _,Yz _⟩) (.inl rfl);rwa [tc]at this
 ·rw[Xd]at hx';split at hx'
  ·rename_i he;have he':b'=H.next:=he;subst he';cases hx';refine .inr ⟨.inr ⟨Yc _,Yz _⟩,bly X,?_,zbo X⟩;rw[tc];rfl
  rw[Xg]at hx';split at hx'
  ·cases hx'
  rename_i he;exact .inl ⟨hk b' _ hx',by simpa using he,hx'⟩
 have h1:b'≠H.next:=Zo;rw[Xd];rw[Yh (show ¬b'=(H.kill b).next from h1),Xg,Yh (by simpa using hw)]
def Xz {f:FuncId}{args:ZA}{X:ZL}{n:Nat}(hN:NCall P f args [] [] (.sl 0 0 n 1 Option.none) ⟨[(0,bly X)],1⟩)(hp:∀x∈args,Pure x) (H:Hp) (hk:∀b x,H.get b=some x→b<H.next):HCall P f args H ⟨True,.sl H.next 0 n 1 Option.none,H.new (bly X),[],[]⟩:=by
 have tc:zu [] H.next H.next=0:=by unfold zu;rw[Yh Zo];simp
 refine HCall.of hN [] args (.sl H.next 0 n 1 Option.none) H (H.new (bly X)) rfl Zs (zA hp) (fun i x hx=>by simp at hx) ?_ (by show H.next+1+0=H.next+1;omega) (fun b' x' hx'=>?_) (fun b' hb' hw=>?_)
 ·have:=Rn.sl (π:=zu [] H.next) (N:=fun b'=>b'∈[]∨(H.next≤b'∧b'<(H.new (bly X)).next)) (b:=H.next) (off:=0) (len:=n) (sz:=1) (kc:=Option.none) (kc':=Option.none) (.inr ⟨Yc _,Yz _⟩) (.inl rfl);rwa [tc]at this
 ·rw[Xd]at hx';split at hx'
  ·rename_i he;have he':b'=H.next:=he;subst he';cases hx';refine .inr ⟨.inr ⟨Yc _,Yz _⟩,bly X,?_,zbo X⟩;rw[tc];rfl
  exact .inl ⟨hk b' _ hx',Zs,hx'⟩
 rw[Xd];rw[Yh Zo]
end
def ApR(st:ZL→ZA→Option ZL)(args:ZA)(H:Hp)(r:AR):Prop:=
 ∃l rest l',(∀b x,H.get b=some x→b<H.next)∧st l rest=some l'∧
  ((l=[]∧l'=[]∧args=.nilS::rest∧r=⟨True,.nilS,H,[],[]⟩)∨
   (l=[]∧l'≠[]∧args=.nilS::rest∧r=⟨True,.sl H.next 0 l'.length 1 none,H.new (bly l'),[],[]⟩)∨
   ∃b,l≠[]∧args=.sl b 0 l.length 1 none::rest∧H.get b=some (bly l)∧r=⟨True,.sl H.next 0 l'.length 1 none,(H.kill b).new (bly l'),[b],[b]⟩)
def zsz {st:ZL→ZA→Option ZL}{args:ZA}{H:Hp}{r r':AR}(h:ApR st args H r)(h':ApR st args H r'):r'=r:=by
 obtain⟨l,rest,k,_,hs,h⟩:=h;obtain⟨l',rest',k',_,hs',h'⟩:=h';rcases h with⟨e1,e2,e3,rfl⟩|⟨e1,e2,e3,rfl⟩|⟨b,e1,e3,hb,rfl⟩<;>rcases h' with⟨f1,f2,f3,rfl⟩|⟨f1,f2,f3,rfl⟩|⟨b',f1,f3,hb',rfl⟩<;>rw[e3]at f3<;>simp only[Yw,V.sl.injEq,Yaf,Yap,reduceCtorEq,false_and]at f3
 all_goals first
  |rfl
  |(subst e1 f1 f3;rw[hs]at hs';cases hs';first|rfl|exact absurd e2 f2|exact absurd f2 e2)
  |(obtain⟨⟨rfl,_⟩,rfl⟩:=f3
    rw[hb]at hb'
    obtain rfl:=zda hb'
    rw[hs]at hs'
    cases hs'
    rfl)
def ap_nil {st:ZL→ZA→Option ZL}{rest:ZA}{l':ZL}{bs:ZH}{nx:Nat}(hs:st [] rest=some l')(hn:l'≠[])(hk:((keysB bs).all fun b=>decide (b<nx))=true):conD (ApR st) (.nilS::rest) ⟨bs,nx⟩=some ⟨True,.sl nx 0 l'.length 1 none,(⟨bs,nx⟩:Hp).new (bly l'),[],[]⟩:=by have hR:ApR st (.nilS::rest) ⟨bs,nx⟩ ⟨True,.sl nx 0 l'.length 1 none,(⟨bs,nx⟩:Hp).new (bly l'),[],[]⟩:=⟨[],rest,l',zaX hk,hs,.inr (.inl ⟨rfl,hn,rfl,rfl⟩)⟩;exact zat hR fun r' h'=>zsz hR h'
def ap_sl {st:ZL→ZA→Option ZL}{b n:Nat}{rest:ZA}{l l':ZL}{bs:ZH}{nx:Nat}(hb:zL bs b=some (bly l))(hn:n=l.length)(h0:l≠[])(hs:st l rest=some l')(hk:((keysB bs).all fun b=>decide (b<nx))=true):conD (ApR st) (.sl b 0 n 1 none::rest) ⟨bs,nx⟩=some ⟨True,.sl nx 0 l'.length 1 none,((⟨bs,nx⟩:Hp).kill b).new (bly l'),[b],[b]⟩:=by subst hn;have hR:ApR st (.sl b 0 l.length 1 none::rest) ⟨bs,nx⟩ ⟨True,.sl nx 0 l'.length 1 none,((⟨bs,nx⟩:Hp).kill b).new (bly l'),[b],[b]⟩:=⟨l,rest,l',zaX hk,hs,.inr (.inr ⟨b,h0,rfl,(zF bs b).trans hb,rfl⟩)⟩;exact zat hR fun r' h'=>zsz hR h'
def zoR(b n:Nat)(k:Option Nat){rest:ZA}(hr:∀x∈rest,Pure x):LRel (Rn (fun i=>[b].getD i 0) (· <1)) (V.sl 0 0 n 1 k::rest) (.sl b 0 n 1 k::rest):=by
 refine⟨rfl,fun i y z hy hz=>?_⟩;match i with
 |0=>cases hy;cases hz;exact .sl (π:=fun i=>[b].getD i 0) (b:=0) (YaH.2 rfl) (.inr rfl)
 |i+1=>simp only[YaI]at hy hz;rw[hy]at hz;cases hz;exact .same (hr y (Y0 hy))
def zsA {f:FuncId}{st:ZL→ZA→Option ZL} (h:∀l rest l',st l rest=some l'→(∀x∈rest,Pure x)∧(l=[]→l'=[]→NCall prog f (.nilS::rest) [] [] .nilS ⟨[],0⟩)∧(l=[]→l'≠[]→NCall prog f (.nilS::rest) [] [] (.sl 0 0 l'.length 1 none) ⟨[(0,bly l')],1⟩)∧(l≠[]→NCall prog f (.sl 0 0 l.length 1 none::rest) [bly l] [0] (.sl 1 0 l'.length 1 none) ⟨[(1,bly l')],2⟩)):∀args H r,ApR st args H r→HCall prog f args H r:=by
 rintro args H r ⟨l,rest,l',hk,hs,h1⟩;obtain⟨hp,n1,n2,n3⟩:=h l rest l' hs;have hpn:∀x∈V.nilS::rest,Pure x:=fun x hx=>by
  rcases Yy.1 hx with rfl|hx
  ·exact .nilS
  exact hp x hx
 rcases h1 with⟨e1,e2,rfl,rfl⟩|⟨e1,e2,rfl,rfl⟩|⟨b,e1,rfl,hb,rfl⟩
 ·exact HCall.none (n1 e1 e2) .nilS [] _ H rfl .nil (zA hpn) (fun i x hx=>by simp at hx) (fun i x hx=>by simp at hx) hk
 ·exact Xz (n2 e1 e2) hpn H hk
 exact XD (n3 e1) b _ H (zoR b l.length none hp) hb hk
def zww(n:Nat)(h:n<4611686018427387904):PCall prog 43 [.int .i64 n] (.ret (.int .i64 (widI n:Nat))):=by
 refine Xc (rs:=[.tmp 2]) [0,2,3,5] [] mixed (zh) (zf) call43 func43 rfl ntmps43 rfl ?_;have hr:widI n=Lib.bitLenAux 64 n:=rfl;rw[hr];simp(disch:=try exact Zq)only[go_sem];refine AXs.loop mixed (zh) (zf) (ι:=Nat×Nat×Nat) (fun x=>[(3,.int .i64 x.2.2),(0,.int .i64 x.2.1)]) (fun _=>⟨[],0⟩) (fun x=>x.1≤64∧x.2.1<4611686018427387904∧(x.1=0→x.2.1=0)∧x.2.1<2^x.1∧x.2.2+x.1=64∧x.2.2+Lib.bitLenAux x.1 x.2.1=Lib.bitLenAux 64 n) (fun x=>x.1) (64,n,0) Zk ⟨Yc _,h,Zo,by show n<2^64;omega,rfl,Yan _⟩ (Xa [] rfl rfl ?_ ?_) ?_
 ·simp only[go_sem]
 ·simp only[go_sem]
 rintro⟨f,m,k⟩ ⟨g1,g2,g3,g4,g5,g6⟩;dsimp only at g1 g2 g3 g4 g5 g6 ⊢;generalize Lib.bitLenAux 64 n=R at*;by_cases hm:0<m
 ·have d0:decide ((0:Int)<m)=true:=Yf Zo;obtain⟨f,rfl⟩:∃f',f=f'+1:=⟨f-1,Zo⟩;have e1:(m:Int)/2=((m/2:Nat):Int):=Zo;have e2:(k:Int)+1=((k+1:Nat):Int):=Zo;have hf:m/2<2^f:=by rw[YM]at g4;omega
  rw[Lib.bitLenAux,Yh Zo]at g6;simp(disch:=try exact Zq)only[go_sem,d0,e1,e2];exact zi (f,m/2,k+1) ⟨by show f≤64;omega,by show m/2<_;omega,(by intro h;have h:f=0:=h;rw[h]at hf;show m/2=0;omega),hf,by show k+1+f=64;omega,by show k+1+Lib.bitLenAux f (m/2)=R;omega⟩ (by show f<f+1;omega) (Xa [] rfl rfl Zg Zg)
 have d0:decide ((0:Int)<m)=false:=Ye Zo;have hm0:m=0:=Zo;have hz:Lib.bitLenAux f m=0:=by rw[hm0];cases f<;>rfl
 rw[hz]at g6;simp(disch:=try exact Zq)only[go_sem,d0];refine AXa.go mixed (zh) (zf) Zk ?_;simp(disch:=try exact Zq)only[go_sem];omega
def cRWid:ZV:=zC (fun n:Nat=>[.int .i64 n]) (fun n=>n<4611686018427387904) fun n=>.ret (.int .i64 (widI n:Nat))
def zr9(n:Nat)(h:n<4611686018427387904):cRWid [.int .i64 n]=some (.ret (.int .i64 (widI n:Nat))):=zo (pat:=fun n:Nat=>[V.int .i64 n]) (fun x y h=>by simp at h;omega) n h
def zr8:ZC cRWid 43:=zn fun n h=>zww n h
def ziE(l ls:ZL)(b n m:Nat)(R:ZN)(H:Hp)(hn:n=l.length)(hm:m=ls.length)(hl:n+m≤100000000000):apL (some (bly l)) 5 1 1 true b 0 n 1 (ls.map zt) m R H=⟨True,.sl H.next 0 (n+m) 1 none,(H.kill b).new (bly (l++ls)),b::R,[b]⟩:=by
 subst hn hm;unfold bly;rw[ziD];have e1:((l.map zt).drop 0).take (l.length*1)=l.map zt:=by rw[Y1,Yag];exact Yl Zs
 rw[e1,←YV];congr 1;refine eq_true ⟨rfl,rfl,rfl,Zs,Zo,Zo,?_,rfl,rfl⟩;rw[List.all_map,Yo];intro x hx;rfl
def zlR(x:Nat)(hx:x<256):V.int .u8 (x:Int)=zt (UInt8.ofNat x):=by unfold zt;rw[UInt8.toNat_ofNat'];exact vint Zo
def zgt(l:ZL)(x b n:Nat)(R:ZN)(H:Hp)(hx:x<256)(hn:n=l.length)(hl:n≤10000000000):apL (some (bly l)) 5 1 1 true b 0 n 1 [.int .u8 (x:Int)] 1 R H=⟨True,.sl H.next 0 (n+1) 1 none,(H.kill b).new (bly (l++[UInt8.ofNat x])),b::R,[b]⟩:=by rw[zlR x hx];exact ziE l [UInt8.ofNat x] b n 1 R H hn rfl Zo
def rvar_N(l:ZL)(n:Nat)(h0:l≠[])(hl:l.length≤90000000)(hn:n<4000000000000):NCall prog 40 [.sl 0 0 l.length 1 none,.int .i64 n] [bly l] [0] (.sl 1 0 (l++varF 5 n).length 1 none) ⟨[(1,bly (l++varF 5 n))],2⟩:=by
 refine Xi (rs:=[.tmp 4]) [0,1,4,6] [] 1 [0] mixed (zh) (zf) call40 func40 rfl ntmps40 rfl Zk Zs Zs Zs Zs ?_;simp(disch:=try exact Zq)only[go_sem];refine AXs.loop mixed (zh) (zf) (ι:=Nat×Nat×ZL) (fun x=>[(1,.int .i64 x.2.1),(0,.sl 1 0 x.2.2.length 1 none)]) (fun x=>⟨[(1,bly x.2.2)],2⟩) (fun x=>x.2.1<128^(x.1+1)∧x.1≤5∧x.2.1<4000000000000∧x.2.2≠[]∧x.2.2.length+x.1≤l.length+5∧x.2.2++varF x.1 x.2.1=l++varF 5 n) (fun x=>x.1) (5,n,l) Zk ⟨by show n<128^6;omega,Yc _,hn,h0,Yc _,rfl⟩ (Xh [(1,0)] rfl ?_ ?_ Zd ?_) ?_
 ·simp only[go_sem]
 ·simp only[go_sem]
 ·exact ZD
 rintro⟨k,m,d⟩ ⟨g1,g2,g3,g4,g5,g6⟩;dsimp only at g1 g2 g3 g4 g5 g6 ⊢;by_cases hc:128≤m
 ·have d0:decide ((128:Int)≤m)=true:=Yf Zo;obtain⟨k,rfl⟩:∃k',k=k'+1:=⟨k-1,by
   cases k with
   |zero=>simp at g1;omega
   |succ k=>rfl⟩
  have e1:(m:Int)/128=((m/128:Nat):Int):=Zo;have e2:IntKind.u8.wrap ((m:Int)%128+128)=((m%128+128:Nat):Int):=by rw[IntKind.wrap_u8'];omega
  simp(disch:=try exact Zq)only[go_sem,d0,e1,e2,zgt];refine zi (k,m/128,d++[UInt8.ofNat (m%128+128)]) ⟨?_,by show k≤5;omega,by show m/128<_;omega,Zs,?_,?_⟩ (by show k<k+1;omega) (Xh [(1,3)] rfl ?_ ?_ Zd ?_)
  ·show m/128<128^(k+1);exact Nat.div_lt_of_lt_mul (by rw[Yav,←YM];exact g1)
  ·show (d++[UInt8.ofNat (m%128+128)]).length+k≤l.length+5;rw[Yd,YZ];omega
  ·show (d++[UInt8.ofNat (m%128+128)])++varF k (m/128)=_;rw[←g6,varF,Yh Zo,YR];rfl
  ·simp(disch:=try exact Zq)only[go_sem];simp
  ·simp(disch:=try exact Zq)only[go_sem]
  exact ZD
 have d0:decide ((128:Int)≤m)=false:=Ye Zo;have e2:IntKind.u8.wrap (m:Int)=(m:Int):=by rw[IntKind.wrap_u8'];omega
 simp(disch:=try exact Zq)only[go_sem,d0];refine AXa.go mixed (zh) (zf) Zk ?_;simp(disch:=try exact Zq)only[go_sem,e2,zgt];have e4:l++varF 5 n=d++[UInt8.ofNat m]:=by
  rw[←g6];cases k with
  |zero=>rfl
  |succ k=>rw[varF,Yi Zo]
 rw[e4];refine⟨[(4,.sl 1 0 (d++[UInt8.ofNat m]).length 1 none)],Xh [(1,3)] rfl (by simp(disch:=try exact Zq)only[go_sem];simp) (by simp(disch:=try exact Zq)only[go_sem]) Zd ?_,rfl⟩;exact ZD
def zq7(l:ZL):ZA→Option ZL
 |[.int .i64 n]=>if l≠[]∧l.length≤90000000∧0≤n∧n<4000000000000 then some (l++varF 5 n.toNat)else none
 |_=>none
def rvar_ok:∀args H r,ApR zq7 args H r→HCall prog 40 args H r:=by
 refine zsA fun l rest l' hs=>?_;unfold zq7 at hs;split at hs
 ·split at hs
  ·rename_i n hx;cases hs;refine⟨fun x hx=>by cases YW.1 hx;exact .int _ _,fun e=>absurd e hx.1,fun e=>absurd e hx.1,fun _=>?_⟩;have e:n=((n.toNat:Nat):Int):=Zo;have:=rvar_N l n.toNat hx.1 hx.2.1 Zo;rwa [←e]at this
  cases hs
 cases hs
def bitF:Nat→Nat→ZL
 |0,_=>[]
 |k+1,n=>UInt8.ofNat (n/2^k%2)::bitF k n
def zc3:∀k n,(bitF k n).length=k
 |0,_=>rfl
 |k+1,n=>by rw[bitF,Yn,zc3 k n]
def rput_N(l:ZL)(n z:Nat)(h0:l≠[])(hl:l.length≤90000000)(hn:n<1152921504606846976)(hz:z≤60):NCall prog 42 [.sl 0 0 l.length 1 none,.int .i64 n,.int .i64 z] [bly l] [0] (.sl 1 0 (l++bitF z n).length 1 none) ⟨[(1,bly (l++bitF z n))],2⟩:=by
 refine Xi (rs:=[.tmp 6]) [0,1,2,6,7,11] [] 1 [0] mixed (zh) (zf) call42 func42 rfl ntmps42 rfl Zk Zs Zs Zs Zs ?_;simp(disch:=try exact Zq)only[go_sem];refine AXs.loop mixed (zh) (zf) (ι:=Nat×ZL) (fun x=>[(7,.int .i64 ((x.1:Int)-1)),(1,.int .i64 n),(0,.sl 1 0 x.2.length 1 none)]) (fun x=>⟨[(1,bly x.2)],2⟩) (fun x=>x.1≤60∧x.2≠[]∧x.2.length+x.1≤l.length+60∧x.2++bitF x.1 n=l++bitF z n) (fun x=>x.1) (z,l) Zk ⟨hz,h0,by show l.length+z≤l.length+60;omega,rfl⟩ (Xh [(1,0)] rfl ?_ ?_ Zd ?_) ?_
 ·simp only[go_sem]
 ·simp only[go_sem]
 ·exact ZD
 rintro⟨k,d⟩ ⟨g2,g4,g5,g6⟩;dsimp only at g2 g4 g5 g6 ⊢;by_cases hc:0<k
 ·have d0:decide ((0:Int)≤(k:Int)-1)=true:=Yf Zo;obtain⟨k,rfl⟩:∃k',k=k'+1:=⟨k-1,Zo⟩;have e0:((k+1:Nat):Int)-1=(k:Nat):=Zo;rw[e0]at d0;rw[e0];obtain⟨q,hq⟩:∃q,q=n/2^k:=⟨_,rfl⟩;have hqn:q≤n:=by rw[hq];exact Ych _ _
  have eS:(n:Int)/2^k=((q:Nat):Int):=by rw[hq];push_cast;rfl
  have eA:Go.bits .and .i64 (q:Int) 1=((q%2:Nat):Int):=zlq q Zo;have eW:IntKind.u8.wrap ((q%2:Nat):Int)=((q%2:Nat):Int):=by rw[IntKind.wrap_u8'];omega
  simp(disch:=try exact Zq)only[go_sem,d0,eS,eA,eW,zgt];refine⟨⟨Zo,Zo⟩,zi (k,d++[UInt8.ofNat (q%2)]) ⟨by show k≤60;omega,Zs,?_,?_⟩ (by show k<k+1;omega) (Xh [(1,3)] rfl ?_ ?_ Zd ?_)⟩
  ·show (d++[UInt8.ofNat (q%2)]).length+k≤l.length+60;rw[Yd,YZ];omega
  ·show (d++[UInt8.ofNat (q%2)])++bitF k n=_;rw[←g6,bitF,←hq,YR];rfl
  ·simp(disch:=try exact Zq)only[go_sem];simp
  ·simp(disch:=try exact Zq)only[go_sem]
  exact ZD
 have hk0:k=0:=Zo;subst hk0;have d0:decide ((0:Int)≤((0:Nat):Int)-1)=false:=Zd;simp(disch:=try exact Zq)only[go_sem,d0];refine AXa.go mixed (zh) (zf) Zk ?_;simp(disch:=try exact Zq)only[go_sem];rw[show bitF 0 n=[]from rfl,Y7]at g6;rw[←g6];refine⟨[(6,.sl 1 0 d.length 1 none)],Xh [(1,1)] rfl (by simp(disch:=try exact Zq)only[go_sem]) (by simp(disch:=try exact Zq)only[go_sem]) Zd ?_,rfl⟩;exact ZD
def byVl(l:ZL):V:=match l with|[]=>.nilS|_::_=>.sl 0 0 l.length 1 none
def byBl(l:ZL):ZH:=match l with|[]=>[]|_::_=>[(0,bly l)]
def byNl(l:ZL):Nat:=match l with|[]=>0|_::_=>1
def bly_one(x:Nat)(h:x<256):Blk.ty 5 [.int .u8 (x:Int)]=bly [UInt8.ofNat x]:=by rw[zlR x h];rfl
def rput_nil(n z:Nat)(hn:n<1152921504606846976)(hz:z≤60):NCall prog 42 [.nilS,.int .i64 n,.int .i64 z] [] [] (byVl (bitF z n)) ⟨byBl (bitF z n),byNl (bitF z n)⟩:=by
 refine NCall.walk (rs:=[.tmp 6]) [0,1,2,6,7,11] [] 0 mixed (zh) (zf) call42 func42 rfl ntmps42 rfl Zk Zs Zs Zs ?_;simp(disch:=try exact Zq)only[go_sem];refine AXs.loop mixed (zh) (zf) (ι:=Nat×ZL) (fun x=>[(7,.int .i64 ((x.1:Int)-1)),(1,.int .i64 n),(0,byVl x.2)]) (fun x=>⟨byBl x.2,byNl x.2⟩) (fun x=>x.1≤60∧x.2.length+x.1≤60∧x.2++bitF x.1 n=bitF z n) (fun x=>x.1) (z,[]) Zk ⟨hz,by show 0+z≤60;omega,rfl⟩ (Xa [] rfl rfl ?_ ?_) ?_
 ·simp only[go_sem,byVl]
 ·simp only[go_sem,byBl,byNl]
 rintro⟨k,d⟩ ⟨g2,g5,g6⟩;dsimp only at g2 g5 g6 ⊢;by_cases hc:0<k
 ·have d0:decide ((0:Int)≤(k:Int)-1)=true:=Yf Zo;obtain⟨k,rfl⟩:∃k',k=k'+1:=⟨k-1,Zo⟩;have e0:((k+1:Nat):Int)-1=(k:Nat):=Zo;rw[e0]at d0;rw[e0];obtain⟨q,hq⟩:∃q,q=n/2^k:=⟨_,rfl⟩;have hqn:q≤n:=by rw[hq];exact Ych _ _
  have eS:(n:Int)/2^k=((q:Nat):Int):=by rw[hq];push_cast;rfl
  have eA:Go.bits .and .i64 (q:Int) 1=((q%2:Nat):Int):=zlq q Zo;have eW:IntKind.u8.wrap ((q%2:Nat):Int)=((q%2:Nat):Int):=by rw[IntKind.wrap_u8'];omega
  have hl1:(d++[UInt8.ofNat (q%2)]).length=d.length+1:=Zs;have g7:(d++[UInt8.ofNat (q%2)])++bitF k n=bitF z n:=by rw[←g6,bitF,←hq,YR];rfl
  cases d with
  |nil=>simp(disch:=try exact Zq)only[go_sem,byVl,byBl,byNl,d0,eS,eA,eW,zj1,bly_one];exact⟨⟨Zo,Zo⟩,zi (k,[UInt8.ofNat (q%2)]) ⟨by show k≤60;omega,by show 1+k≤60;omega,g7⟩ (by show k<k+1;omega) (Xa [(0,1)] rfl rfl (by simp(disch:=try exact Zq)only[go_sem]) (by simp(disch:=try exact Zq)only[go_sem]))⟩
  |cons a d=>have g8:d.length+1+(k+1)≤60:=g5;simp(disch:=try exact Zq)only[go_sem,byVl,byBl,byNl,d0,eS,eA,eW,zgt];exact⟨⟨Zo,Zo⟩,zi (k,a::d++[UInt8.ofNat (q%2)]) ⟨by show k≤60;omega,by show (a::d++[UInt8.ofNat (q%2)]).length+k≤60;rw[hl1,Yn];omega,g7⟩ (by show k<k+1;omega) (Xa [(0,2)] rfl rfl (by simp(disch:=try exact Zq)only[go_sem];simp) (by simp(disch:=try exact Zq)only[go_sem]))⟩
 have hk0:k=0:=Zo;subst hk0;have d0:decide ((0:Int)≤((0:Nat):Int)-1)=false:=Zd;rw[show bitF 0 n=[]from rfl,Y7]at g6;rw[←g6];cases d with
 |nil=>simp(disch:=try exact Zq)only[go_sem,byVl,byBl,byNl,d0];refine AXa.go mixed (zh) (zf) Zk ?_;simp(disch:=try exact Zq)only[go_sem];exact⟨[(6,.nilS)],Xa [] rfl rfl (by simp(disch:=try exact Zq)only[go_sem]) (by simp(disch:=try exact Zq)only[go_sem]),rfl⟩
 |cons a d=>simp(disch:=try exact Zq)only[go_sem,byVl,byBl,byNl,d0];refine AXa.go mixed (zh) (zf) Zk ?_;simp(disch:=try exact Zq)only[go_sem];exact⟨[(6,.sl 0 0 (d.length+1) 1 none)],Xa [(0,0)] rfl rfl (by simp(disch:=try exact Zq)only[go_sem]) (by simp(disch:=try exact Zq)only[go_sem]),rfl⟩
def zhu(l:ZL):ZA→Option ZL
 |[.int .i64 n,.int .i64 z]=>if l.length≤90000000∧0≤n∧n<1152921504606846976∧0≤z∧z≤60 then some (l++bitF z.toNat n.toNat)else none
 |_=>none
def rput_ok:∀args H r,ApR zhu args H r→HCall prog 42 args H r:=by
 refine zsA fun l rest l' hs=>?_;unfold zhu at hs;split at hs
 ·split at hs
  ·rename_i n z hx;cases hs;have e:n=((n.toNat:Nat):Int):=Zo;have ez:z=((z.toNat:Nat):Int):=Zo;have hn:=rput_nil n.toNat z.toNat Zo Zo;rw[←e,←ez]at hn;refine⟨fun x hx=>?_,fun e1 e2=>?_,fun e1 e2=>?_,fun h0=>?_⟩
   ·simp only[Yy,YaE,Yce]at hx;rcases hx with rfl|rfl<;>exact .int _ _
   ·rw[e1,YaK]at e2;rw[e2]at hn;exact hn
   ·subst e1;rw[YaK]at e2 ⊢;cases hB:bitF z.toNat n.toNat with
    |nil=>exact absurd hB e2
    |cons a d=>rw[hB]at hn;exact hn
   have:=rput_N l n.toNat z.toNat h0 hx.1 Zo Zo;rwa [←e,←ez]at this
  cases hs
 cases hs
def Δr0:FuncId→ZA→Hp→Option AR:=za8 40 (conD (ApR zq7)) (za8 42 (conD (ApR zhu)) noΔ)
def zcE:zaP prog Δr0:=zJ (zV rvar_ok) (zJ (zV rput_ok) zf)
def zj5(b k:Nat)(l:ZL)(n:Nat)(bs:ZH)(nx:Nat)(hb:zL bs b=some (bly l))(hk':k=l.length)(h:l≠[])(hl:l.length≤90000000)(hn:n<4000000000000)(hk:((keysB bs).all fun b=>decide (b<nx))=true):Δr0 40 [.sl b 0 k 1 none,.int .i64 n] ⟨bs,nx⟩=some ⟨True,.sl nx 0 (l++varF 5 n).length 1 none,((⟨bs,nx⟩:Hp).kill b).new (bly (l++varF 5 n)),[b],[b]⟩:=
 ap_sl (st:=zq7) hb hk' h (Yi ⟨h,hl,Int.natCast_nonneg _,Zo⟩) hk
def zqJ(b k:Nat)(l:ZL)(n z:Nat)(bs:ZH)(nx:Nat)(hb:zL bs b=some (bly l))(hk':k=l.length)(h:l≠[])(hl:l.length≤90000000)(hn:n<1152921504606846976)(hz:z≤60)(hk:((keysB bs).all fun b=>decide (b<nx))=true):Δr0 42 [.sl b 0 k 1 none,.int .i64 n,.int .i64 z] ⟨bs,nx⟩=some ⟨True,.sl nx 0 (l++bitF z n).length 1 none,((⟨bs,nx⟩:Hp).kill b).new (bly (l++bitF z n)),[b],[b]⟩:=
 ap_sl (st:=zhu) hb hk' h (Yi ⟨hl,Int.natCast_nonneg _,Zo,Int.natCast_nonneg _,Zo⟩) hk
def zwm(l:ZL)(n z:Nat)(hl:l.length≤90000000)(hn:n<1152921504606846976)(hz:z≤60):zhu l [.int .i64 n,.int .i64 z]=some (l++bitF z n):=Yi ⟨hl,Int.natCast_nonneg _,Zo,Int.natCast_nonneg _,Zo⟩
def ztc(n z:Nat)(hn:n<1152921504606846976)(hz:z≤60):zhu [] [.int .i64 n,.int .i64 z]=some (bitF z n):=zwm [] n z (Yk _) hn hz
def zl7(n z:Nat)(bs:ZH)(nx:Nat)(hn:n<1152921504606846976)(hz:z≤60)(h0:0<z)(hk:((keysB bs).all fun b=>decide (b<nx))=true):Δr0 42 [.nilS,.int .i64 n,.int .i64 z] ⟨bs,nx⟩=some ⟨True,.sl nx 0 z 1 none,(⟨bs,nx⟩:Hp).new (bly (bitF z n)),[],[]⟩:=by have h:=ap_nil (st:=zhu) (rest:=[.int .i64 n,.int .i64 z]) (l':=bitF z n) (bs:=bs) (nx:=nx) (ztc n z hn hz) (by intro e;have:=zc3 z n;rw[e]at this;simp at this;omega) hk;rw[zc3]at h;exact h
end Go.Proofs
